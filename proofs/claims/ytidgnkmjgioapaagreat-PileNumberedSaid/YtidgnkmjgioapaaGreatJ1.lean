/-
  Part 4 of the proof. gladstonelaw04.PileNumbered answers true for every list of numbers, and leaves its argument as it was. No conditions.
-/
import Derived.Test.YtidgnkmjgioapaaGreatG2
import Derived.Test.YtidgnkmjgioapaaGreatL1
import Derived.RangeFuncBox
import Derived.DeepKeys
import Derived.RangeFuncNested
import Derived.RangeFuncBound
import Derived.RangeFuncCalls
import Derived.RangeFuncLeaves
import Derived.Shelf.Abstract
import Derived.WalkKit
import Derived.OwnWalkIn
import Derived.TacticsInMore
import Derived.LoopNIn
import Derived.LoopIn
import Derived.Laws.CopyOwn
import Derived.Laws.CopyRow
import Derived.Laws.IdiomCopy
import Derived.Recover
import Derived.Defers
import Derived.RangeFuncOwn
import Derived.WalkMore
set_option maxRecDepth 100000
set_option maxHeartbeats 8000000
set_option linter.all false
open And renaming intro->Mm
open Array renaming getD_eq_getD_getElem?->No,getElem?_append_left->PG,getElem?_eq_getElem->Ml,getElem?_eq_some_iff->Lz,getElem?_setIfInBounds_ne->ML,replicate->MR,replicate_succ->MF,replicate_zero->MG
open Bool renaming and_eq_true->Mg,false_eq_true->Mx,not_eq_true'->OM,true_and->Tl,false->LH,true->LG
open Classical renaming byContradiction->MX,em->VU
open Go renaming Act->ON,Addr->MN,Calls->MH,Code->Og,Deferred->NR,Exit->SS,Frame->LW,FuncId->Nh,block_lt_of_cell->Vm,Goroutine->LD,Item->PW,MapEntry->Pv,Obj->SQ,Oper->NB,Operand->MS,Program->LV,TypeId->LZ,Value->LA,World->Lt,bits->Ut,bodyPost_ret->Ot,callDeferred->NT,callsIn_of_wp->Ud,callsIn_of_wp_marks->RV,callsIn_wide->NM,execOp->OZ,grownBy_putObj'->Pi,grownCap->Qa,heap_alloc_new->LS,info_parts->Pd,leaves_cons->Sw,maxLen->Qe,results->Om,results_tmp->Sv,run_takeDeferred->RS,run_underlying->SN,stepG->Nb,undef->LI,unwind->Qw,wpList_append_lies->TP,yielded->Od,zeroValue->QL
open Go.Builtin renaming append_->PI,clear_->SD,copy_->TX,zeroCells->Ol
open Go.Calls renaming quiet_of_same->Ov
open Go.Conc renaming base->Mo,baseD->Nv,dcall->Xz
open Go.Exit renaming inBlock->QF,jump->Vg
open Go.Frame renaming enter->MO
open Go.GStep renaming after->Ni
open Go.Instr renaming checkKey->PV,findAsking->Qk,findKey->QG,lookup->RL,makeMap->TY,mapUpdate->NI
open Go.IntWalk renaming i64_in->MI
open Go.Lib renaming hid->Lu
open Go.MemAct renaming ofEvent->Ny,touch?->Oh
open Go.Proofs.Tryz renaming f137->Vf,f139->Qp,f141->Te,f142->Sz,f143->TE,f54->Sc,func139->Uz,func141->Wc,func142->SO,func143->XR,func182->XS,ntmps101->Xy,ntmps103->Xt,ntmps113->Xw,ntmps136->Xu,ntmps154->Xx,ntmps157->Vx,ntmps165->Xv,ntmps84->Uy,ntmps98->VZ,prog->Ma,results102->WK,results54->Xf,underlying29->QC
open Go.Region renaming binds->MW,ready->Mi,wanted->MA
open Go.Result renaming andThen->RF,andThen_ok->NC
open Go.RowKit.Below renaming heap_setCell->Nd,refl->RH
open Go.Sem renaming run->Nm,run_bind->NF,run_pure->RO
open Go.Value renaming int->Mp,oneCell'->OV,ownBlock->MP,slice->MU
open Go.World renaming cell?->Mz,grownBy_alloc->Lr,news_of_block->Of,ownsRow_nil->OF,putObj->XQ,putObj_heap_same->Rb,setCell->NS,size_alloc->Mc
open Go.World.grownBy renaming refl->Mf
open Int renaming eq_ofNat_of_zero_le->Qb,toNat_natCast->Pe
open List renaming all_eq_true->MD,append_assoc->OE,append_toArray->OY,cons_append->Mk,drop_eq_getElem_cons->Oc,drop_eq_nil_of_le->Pm,drop_succ_cons->MQ,drop_zero->Nu,eq_nil_of_length_eq_zero->MT,ext_getElem->Wv,ext_getElem?->QE,filter_append->So,find?_eq_none->Qt,flatMap_append->TA,flatMap_cons->Oo,foldl_append->Rs,foldl_cons->OI,forall_mem_cons->NW,forall_mem_nil->TB,getElem?_append_left->Mv,getElem?_append_right->Nz,getElem?_eq_getElem->LO,getElem?_eq_some_iff->Md,getElem?_map->NO,getElem?_of_mem->Tt,getElem?_set->TV,getElem?_set_ne->PZ,getElem?_take->QZ,getElem?_take_of_lt->Oi,length_append->Na,length_cons->LX,length_filter_le->Oq,length_map->On,length_nil->Mj,length_pos_iff->Pr,length_set->OW,length_singleton->SV,length_take->OX,map_append->NJ,map_congr_left->RX,map_cons->PS,map_nil->Ra,map_toArray->RQ,mem_append->Ob,mem_cons->MK,mem_filter->Oa,mem_flatMap->Ox,mem_map->Nt,mem_of_getElem?->Mh,mem_of_mem_take->QD,mem_range->Nj,mem_singleton->Nl,nil_append->Mu,not_mem_nil->NQ,pairwise_iff_getElem->PN,pairwise_map->Qc,push_toArray->MZ,range->Mr,range'->QS,range_succ->Qx,replicate->Xe,setIfInBounds_toArray->TQ,set_cons_succ->TO,set_cons_zero->TN,size_toArray->Mt,takeWhile_cons_of_pos->RI,take_add_one->Np,take_length->NH,take_sublist->VY
open List.cons renaming injEq->OT
open List.range renaming loop->MY
open Nat renaming add_assoc->RY,add_mul->Sx,le_of_eq->Py,le_of_lt->Wa,le_refl->LC,le_trans->LN,lt_of_lt_of_le->LY,min_eq_left->UE,mul_le_mul_right->PF,reduceAdd->Ms,reduceSub->NA,zero_add->Mn,zero_le->Mw
open Option renaming getD_some->LQ,none->Lw,some->Lq
open Option.some renaming inj->OQ,injEq->MM
open Prod renaming fst->Po
open _root_ renaming Array->LM,Bool->MC,False->PC,Int->LJ,List->Lx,Nat->Ly,Option->LU
namespace Go.Proofs.YtidgnkmjgioapaaGreat
section
open Go.RowKit Go.Co
def sqA:Og->Og | .seq a _=>a | c=>c
def sqB:Og->Og | .seq _ b=>b | c=>c
def inn:Og->Og | .block _ c | .loop c | .scope c=>c | c=>c
noncomputable def dU:Og:=inn (inn (inn (sqB (Tryz.f139.body.getD .skip))))
noncomputable def wR3:Og:=sqA (sqB (sqB dU))
noncomputable def wR4:Og:=sqA (sqB (sqB (sqB dU)))
noncomputable def wR9:Og:=sqA (sqB (sqB (sqB (sqB dU))))
structure I3(t:Ly->LA)(w0:Lt)(Y:Ly)(yv:LA)(gm gx:Ly->LJ)(l:LM MC)(a:ON)(w:Lt):Prop where
 hg:w0.grownBy w Lw
 c6:l[6]?.getD LH=LG->l[0]?.getD LH=LG/\l[1]?.getD LH=LG/\l[3]?.getD LH=LG/\l[4]?.getD LH=LG/\l[5]?.getD LH=LG
 c7:l[7]?.getD LH=LG->l[6]?.getD LH=LG
 ac:∃T8 T9 x y z u,a=⟨#[t 0,t 1,t 2,t 3,.pointer (Lq Y),t 5,t 6,t 7,T8,T9,t 10,t 11,t 12,t 13,t 14,t 15,t 16,t 17,t 18,t 19,t 20,x,y,z,u,t 25,t 26,t 27,t 28,t 29,t 30,t 31,t 32,t 33,t 34,t 35,t 36,t 37,t 38,t 39,t 40,t 41,t 42,t 43,t 44,t 45,t 46,t 47,t 48,t 49,t 50,t 51,t 52,t 53,t 54,t 55,t 56,t 57,t 58,t 59],[]⟩/\(l[0]?.getD LH=LG->x=yv)/\(l[1]?.getD LH=LG->y=wts gm)/\(l[2]?.getD LH=LG->z=yv)/\(l[3]?.getD LH=LG->u=wts gx) /\
  (l[4]?.getD LH=LG->∃B1,T8=.pointer (Lq ⟨B1,0,Lw⟩)/\w0.heap.size<=B1/\w.heap[B1]?=Lq (aR (if l[6]?.getD LH then gm else λ_=>0))/\(l[5]?.getD LH=LG->T9≠T8)) /\
  (l[5]?.getD LH=LG->∃B2,T9=.pointer (Lq ⟨B2,0,Lw⟩)/\w0.heap.size<=B2/\w.heap[B2]?=Lq (aR (if l[7]?.getD LH then gx else λ_=>0)))
def IR(lo G:Ly)(t:Ly->LA)(w:Lt)(R:ON->Lt->Prop)(M:Lx Par)(b7:LJ)(Y:Ly)(yb:LU MN)(yc:Ly)(h4:t 4=.pointer (Lq Y))(hP:aC lo G w (.slice yb M.length yc) M)(p6:G<=w.heap.size)(h5:M.length<=5)(e8:w.cell? Y=Lq (.slice yb M.length yc))(e7:w.cell? ⟨Y,1,Lw⟩=Lq (.int .i64 b7))(p7:Y<w.heap.size)(hR:∀o k w' x y z u,w.gb w' Lw->w'.heap[o]?=Lq (aR (pre Par.mn M M.length))->w'.heap[k]?=Lq (aR (pre Par.mx M M.length))->o≠k->w.heap.size<=o->w.heap.size<=k ->R ⟨#[t 0,t 1,t 2,t 3,.pointer (Lq Y),t 5,t 6,t 7,.pointer (Lq ⟨o,0,Lw⟩),.pointer (Lq ⟨k,0,Lw⟩),t 10,t 11,t 12,t 13,t 14,t 15,t 16,t 17,t 18,t 19,t 20,x,y,z,u,t 25,t 26,t 27,t 28,t 29,t 30,t 31,t 32,t 33,t 34,t 35,t 36,t 37,t 38,t 39,t 40,t 41,t 42,t 43,t 44,t 45,t 46,t 47,t 48,t 49,t 50,t 51,t 52,t 53,t 54,t 55,t 56,t 57,t 58,t 59],[]⟩ w') :wR3.wp Ya (eL R) ⟨#[t 0,t 1,t 2,t 3,t 4,t 5,t 6,t 7,t 8,t 9,t 10,t 11,t 12,t 13,t 14,t 15,t 16,t 17,t 18,t 19,t 20,t 21,t 22,t 23,t 24,t 25,t 26,t 27,t 28,t 29,t 30,t 31,t 32,t 33,t 34,t 35,t 36,t 37,t 38,t 39,t 40,t 41,t 42,t 43,t 44,t 45,t 46,t 47,t 48,t 49,t 50,t 51,t 52,t 53,t 54,t 55,t 56,t 57,t 58,t 59],[]⟩ w:=by
 have⟨HR,HP⟩:=aS hR hP;have SC:=Lu (Mm e8 e7);clear hR hP e8 e7;rw[h4];clear h4;simp only[wR3,dU,Qp,LQ,sqA,sqB,inn];obtain⟨T,d7⟩:∃T,T=pre Par.mn M M.length:=⟨_,rfl⟩;obtain⟨gx,c9⟩:∃gx,gx=pre Par.mx M M.length:=⟨_,rfl⟩;rw[<- d7,<- c9] at HR;have⟨m3,l9⟩:=aS d7 c9;clear d7 c9;refine rX (by kernel_rfl) (I3 t w Y (.agg #[.slice yb M.length yc,b7]) T gx) ?_ ?_ ?_
 ·exact⟨ak _ _,by simp,by simp,t 8,t 9,t 21,t 22,t 23,t 24,rfl,by simp,by simp,by simp,by simp,by simp,by simp⟩
 ·intro l a V i I hI G;have c8:=(bT G).1;have L:l.size=8:=I;have c:∀i j,i<8->(l.setIfInBounds i LG)[j]?.getD LH=if i=j then LG else l[j]?.getD LH:=λi j h=>lp l i j (by omega);have d:=mV G;obtain⟨hg,C,B,T8,T9,x,y,z,u,rfl,A,s,v,r,q,p⟩:=hI;have HG:=Lu hg;have s0:=hg.cl SC.1;have s1:=hg.cl SC.2;have g5:=Lu (HP.kept hg);have e6:=hg.size;clear hg;have c8:i=0\/i=1\/i=2\/i=3\/i=4\/i=5\/i=6\/i=7:=by
   have:i<8:=c8;omega
  rcases c8 with rfl | rfl | rfl | rfl | rfl | rfl | rfl | rfl
  ·refine bZ rfl ?_;have H:=Lu (Mm C (Mm B (Mm s (Mm v (Mm r (Mm q p))))));have⟨W,n⟩:=aS d c;clear A s v r q p C B G d c I L;go_wp2;have⟨C,B,s,v,r,q,p⟩:=H.out;have c:=n.out;have F:l[6]?.getD LH=LH:=by
    cases h:l[6]?.getD LH with
    | false=>rfl
    | true=>have:=(C h).1;rw[W] at this;cases this
   have Q:l[7]?.getD LH=LH:=by
    cases h:l[7]?.getD LH with
    | false=>rfl
    | true=>rw[B h] at F;cases F
   exact⟨HG,by simp[c,F],by simp[c,Q],T8,T9,_,y,z,u,rfl,λ_=>rfl,by simpa[c] using s,by simpa[c] using v,by simpa[c] using r,by simpa[c] using q,by simpa[c] using p⟩
  ·have b:=bS G rfl;simp[MW] at b;have O:l[0]?.getD LH=LG:=by(repeat(first | exact b | exact b.1 | replace b:=b.2))
   obtain rfl:=A O;clear b;refine bZ rfl ?_;have D0:=Lu O;clear O;have H:=Lu (Mm C (Mm B (Mm s (Mm v (Mm r (Mm q p))))));have⟨W,n⟩:=aS d c;clear A s v r q p C B G d c I L;go_wp2_with (go_at_call 93;refine(lj lo G _ M b7 _ ⟨_,rfl,g5⟩ (by omega) h5).mono ?_;rintro e w5 ⟨rfl,X⟩;have P:=Lu X;clear X);have c:=n.out;have F:l[6]?.getD LH=LH:=by
    cases h:l[6]?.getD LH with
    | false=>rfl
    | true=>have:=H.out.1 h;simp[W.out] at this
   have Q:l[7]?.getD LH=LH:=by
    cases h:l[7]?.getD LH with
    | false=>rfl
    | true=>rw[H.2.1 h] at F;cases F
   have⟨C,B,s,v,r,q,p⟩:=H.out;exact⟨HG.t P,by simp[c,F],by simp[c,Q],T8,T9,_,_,z,u,rfl,λ_=>rfl,λ_=>by rw[m3],by simpa[c] using v,by simpa[c] using r,by intro h;have⟨o,e,hb,S,hn⟩:=q (by simpa[c] using h);exact⟨o,e,hb,by simpa[c] using bk P S,by simpa[c] using hn⟩,by intro h;have⟨k,e,hb,S⟩:=p (by simpa[c] using h);exact⟨k,e,hb,by simpa[c] using bk P S⟩⟩
  ·refine bZ rfl ?_;have H:=Lu (Mm C (Mm B (Mm A (Mm s (Mm v (Mm r (Mm q p)))))));have⟨W,n⟩:=aS d c;clear A s v r q p C B G d c I L;go_wp2;have c:=n.out;have⟨C,B,A,s,v,r,q,p⟩:=H.out;exact⟨HG,by simpa[c] using C,by simpa[c] using B,T8,T9,x,y,_,u,rfl,by simpa[c] using A,by simpa[c] using s,λ_=>rfl,by simpa[c] using r,by simpa[c] using q,by simpa[c] using p⟩
  ·have b:=bS G rfl;simp[MW] at b;have d2:l[2]?.getD LH=LG:=by(repeat(first | exact b | exact b.1 | replace b:=b.2))
   obtain rfl:=v d2;clear b;refine bZ rfl ?_;have D2:=Lu d2;clear d2;have H:=Lu (Mm C (Mm B (Mm A (Mm s (Mm r (Mm q p))))));have⟨W,n⟩:=aS d c;clear A s v r q p C B G d c I L;go_wp2_with (go_at_call 92;refine(kG lo G _ M b7 _ ⟨_,rfl,g5⟩ (by omega) h5).mono ?_;rintro e w5 ⟨rfl,X⟩;have P:=Lu X;clear X);have c:=n.out;have F:l[6]?.getD LH=LH:=by
    cases h:l[6]?.getD LH with
    | false=>rfl
    | true=>have:=H.out.1 h;simp[W.out] at this
   have Q:l[7]?.getD LH=LH:=by
    cases h:l[7]?.getD LH with
    | false=>rfl
    | true=>rw[H.2.1 h] at F;cases F
   have⟨C,B,A,s,r,q,p⟩:=H.out;exact⟨HG.t P,by simp[c,F],by simp[c,Q],T8,T9,x,y,_,_,rfl,by simpa[c] using A,by simpa[c] using s,λ_=>rfl,λ_=>by rw[l9],by intro h;have⟨o,e,hb,S,hn⟩:=q (by simpa[c] using h);exact⟨o,e,hb,by simpa[c] using bk P S,by simpa[c] using hn⟩,by intro h;have⟨k,e,hb,S⟩:=p (by simpa[c] using h);exact⟨k,e,hb,by simpa[c] using bk P S⟩⟩
  ·refine bZ rfl ?_;have H:=Lu (Mm C (Mm B (Mm A (Mm s (Mm v (Mm r (Mm q p)))))));have⟨W,n⟩:=aS d c;clear A s v r q p C B G d c I L;go_wp2;have c:=n.out;have F:l[6]?.getD LH=LH:=by
    cases h:l[6]?.getD LH with
    | false=>rfl
    | true=>have:=H.out.1 h;simp[W.out] at this
   have Q:l[7]?.getD LH=LH:=by
    cases h:l[7]?.getD LH with
    | false=>rfl
    | true=>rw[H.2.1 h] at F;cases F
   have⟨C,B,A,s,v,r,q,p⟩:=H.out;refine⟨HG.t (Lr _ _ Lw),by simp[c,F],by simp[c,Q],_,T9,x,y,z,u,rfl,by simpa[c] using A,by simpa[c] using s,by simpa[c] using v,by simpa[c] using r,λ_=>⟨V.heap.size,rfl,e6,?_,λh=>?_⟩,by intro h;have⟨k,e,hb,S⟩:=p (by simpa[c] using h);exact⟨k,e,hb,by simpa[c] using aD S⟩⟩
   ·rw[show(l.setIfInBounds 4 LG)[6]?.getD LH=LH by simp[c,F]];exact LS V (aR λ_=>0)
   ·have⟨k,e2,_,S⟩:=p (by simpa[c] using h);have:=(Lz.1 S).1;rw[e2];intro e;simp at e;try omega
  ·refine bZ rfl ?_;have H:=Lu (Mm C (Mm B (Mm A (Mm s (Mm v (Mm r (Mm q p)))))));have⟨W,n⟩:=aS d c;clear A s v r q p C B G d c I L;go_wp2;have c:=n.out;have F:l[6]?.getD LH=LH:=by
    cases h:l[6]?.getD LH with
    | false=>rfl
    | true=>have:=H.out.1 h;simp[W.out] at this
   have Q:l[7]?.getD LH=LH:=by
    cases h:l[7]?.getD LH with
    | false=>rfl
    | true=>rw[H.2.1 h] at F;cases F
   have⟨C,B,A,s,v,r,q,p⟩:=H.out;refine⟨HG.t (Lr _ _ Lw),by simp[c,F],by simp[c,Q],T8,_,x,y,z,u,rfl,by simpa[c] using A,by simpa[c] using s,by simpa[c] using v,by simpa[c] using r,λh=>?_,λ_=>⟨V.heap.size,rfl,e6,?_⟩⟩
   ·have⟨o,e,hb,S,hn⟩:=q (by simpa[c] using h);refine⟨o,e,hb,by simpa[c] using aD S,λ_=>?_⟩;have:=(Lz.1 S).1;rw[e];intro e;simp at e;try omega
   ·rw[show(l.setIfInBounds 5 LG)[7]?.getD LH=LH by simp[c,Q]];exact LS V (aR λ_=>0)
  ·have b:=bS G rfl;simp[MW] at b;have O:l[0]?.getD LH=LG:=by(repeat(first | exact b | exact b.1 | replace b:=b.2))
   have d1:l[1]?.getD LH=LG:=by(repeat(first | exact b | exact b.1 | replace b:=b.2))
   have d3:l[3]?.getD LH=LG:=by(repeat(first | exact b | exact b.1 | replace b:=b.2))
   have d4:l[4]?.getD LH=LG:=by(repeat(first | exact b | exact b.1 | replace b:=b.2))
   have U:l[5]?.getD LH=LG:=by(repeat(first | exact b | exact b.1 | replace b:=b.2))
   have D:=Lu (Mm O (Mm d1 (Mm d3 (Mm d4 U))));obtain⟨o,rfl,a6,g,N⟩:=q d4;obtain⟨k,rfl,Z,f⟩:=p U;obtain rfl:=s d1;obtain rfl:=r d3;obtain rfl:=A O;have N:k≠o:=λe=>N U (by rw[e]);have Q:l[7]?.getD LH=LH:=by
    cases h:l[7]?.getD LH with
    | false=>rfl
    | true=>rw[B h] at d;cases d
   rw[d] at g;rw[Q] at f;have N7:=Lu Q;clear Q;simp only[Mx,if_true,if_false,reduceIte] at g f;have⟨d9,d8⟩:=aS g f;have a0:=aA g (show 0<5 by omega);have a1:=aA g (show 1<5 by omega);have a2:=aA g (show 2<5 by omega);have a3:=aA g (show 3<5 by omega);have a4:=aA g (show 4<5 by omega);have fz:=dC g;have p5:=(Lz.1 g).1;refine bZ rfl ?_;have⟨W,K2,n⟩:=bL d v c;clear g f b O d1 d3 d4 U A s v r q p C B G d c I L;unfold wts;go_wp2;have c:=n.out;have hW:(((((V.setCell ⟨o,0,Lw⟩ (.int .i64 (T 0))).setCell ⟨o,1,Lw⟩ (.int .i64 (T 1))).setCell ⟨o,2,Lw⟩ (.int .i64 (T 2))).setCell ⟨o,3,Lw⟩ (.int .i64 (T 3))).setCell ⟨o,4,Lw⟩ (.int .i64 (T 4))).heap[o]?=Lq (aR T):=by
    rw[ar (ar (ar (ar (ar d9))))];rfl
   have hG:V.gb (((((V.setCell ⟨o,0,Lw⟩ (.int .i64 (T 0))).setCell ⟨o,1,Lw⟩ (.int .i64 (T 1))).setCell ⟨o,2,Lw⟩ (.int .i64 (T 2))).setCell ⟨o,3,Lw⟩ (.int .i64 (T 3))).setCell ⟨o,4,Lw⟩ (.int .i64 (T 4))) (Lq o) :=
    ((((an _ _ _ _).t (an _ _ _ _)).t (an _ _ _ _)).t (an _ _ _ _)).t (an _ _ _ _)
   refine⟨HG.andThen (row':=Lq o) hG (by rintro j e;cases e;exact .inl (by omega)),?_,?_,_,_,_,_,_,_,rfl,λ_=>rfl,λ_=>rfl,?_,λ_=>rfl,λ_=>⟨o,rfl,a6,?_,λ_=>by intro e;simp at e;try omega⟩,λ_=>⟨k,rfl,Z,?_⟩⟩
   ·intro _;have⟨O,d1,d3,d4,U⟩:=D.out;simp[c,O,d1,d3,d4,U]
   ·intro h;rw[c 6 7 (by omega)] at h;simp[N7.out] at h
   ·simpa[c] using K2.out
   ·rw[show(l.setIfInBounds 6 LG)[6]?.getD LH=LG by simp[c]];exact hW
   ·rw[show(l.setIfInBounds 6 LG)[7]?.getD LH=LH by simp[c,N7.out]];exact blk hG (by simp;omega) d8
  ·have b:=bS G rfl;simp[MW] at b;have O:l[0]?.getD LH=LG:=by(repeat(first | exact b | exact b.1 | replace b:=b.2))
   have d1:l[1]?.getD LH=LG:=by(repeat(first | exact b | exact b.1 | replace b:=b.2))
   have d3:l[3]?.getD LH=LG:=by(repeat(first | exact b | exact b.1 | replace b:=b.2))
   have d4:l[4]?.getD LH=LG:=by(repeat(first | exact b | exact b.1 | replace b:=b.2))
   have U:l[5]?.getD LH=LG:=by(repeat(first | exact b | exact b.1 | replace b:=b.2))
   have D:=Lu (Mm O (Mm d1 (Mm d3 (Mm d4 U))));have d6:l[6]?.getD LH=LG:=by(repeat(first | exact b | exact b.1 | replace b:=b.2))
   have D6:=Lu d6;obtain⟨o,rfl,a6,g,N⟩:=q d4;obtain⟨k,rfl,Z,f⟩:=p U;obtain rfl:=s d1;obtain rfl:=r d3;obtain rfl:=A O;have N:k≠o:=λe=>N U (by rw[e]);rw[d6] at g;rw[d] at f;clear d6;simp only[Mx,if_true,if_false,reduceIte] at g f;have⟨d9,d8⟩:=aS g f;have a0:=aA f (show 0<5 by omega);have a1:=aA f (show 1<5 by omega);have a2:=aA f (show 2<5 by omega);have a3:=aA f (show 3<5 by omega);have a4:=aA f (show 4<5 by omega);have fz:=dC f;have p4:=(Lz.1 f).1;refine bZ rfl ?_;have⟨W,K2,n⟩:=bL d v c;clear g f b O d1 d3 d4 U A s v r q p C B G d c I L;unfold wts;go_wp2;have c:=n.out;have hW:(((((V.setCell ⟨k,0,Lw⟩ (.int .i64 (gx 0))).setCell ⟨k,1,Lw⟩ (.int .i64 (gx 1))).setCell ⟨k,2,Lw⟩ (.int .i64 (gx 2))).setCell ⟨k,3,Lw⟩ (.int .i64 (gx 3))).setCell ⟨k,4,Lw⟩ (.int .i64 (gx 4))).heap[k]?=Lq (aR gx):=by
    rw[ar (ar (ar (ar (ar d8))))];rfl
   have hG:V.gb (((((V.setCell ⟨k,0,Lw⟩ (.int .i64 (gx 0))).setCell ⟨k,1,Lw⟩ (.int .i64 (gx 1))).setCell ⟨k,2,Lw⟩ (.int .i64 (gx 2))).setCell ⟨k,3,Lw⟩ (.int .i64 (gx 3))).setCell ⟨k,4,Lw⟩ (.int .i64 (gx 4))) (Lq k) :=
    ((((an _ _ _ _).t (an _ _ _ _)).t (an _ _ _ _)).t (an _ _ _ _)).t (an _ _ _ _)
   refine⟨HG.andThen (row':=Lq k) hG (by rintro j e;cases e;exact .inl (by omega)),?_,?_,_,_,_,_,_,_,rfl,λ_=>rfl,λ_=>rfl,?_,λ_=>rfl,λ_=>⟨o,rfl,a6,?_,λ_=>by intro e;simp at e;try omega⟩,λ_=>⟨k,rfl,Z,?_⟩⟩
   ·intro _;have⟨O,d1,d3,d4,U⟩:=D.out;simp[c,O,d1,d3,d4,U]
   ·intro _;simp[c,D6.out]
   ·simpa[c] using K2.out
   ·rw[show(l.setIfInBounds 7 LG)[6]?.getD LH=LG by simp[c,D6.out]];exact blk hG (by simp;omega) d9
   ·rw[show(l.setIfInBounds 7 LG)[7]?.getD LH=LG by simp[c]];exact hW
 ·intro l a V I hI hr;obtain⟨hg,C,B,T8,T9,x,y,z,u,rfl,A,s,v,r,q,p⟩:=hI;have q0:=cS hr I (i:=0) rfl (by simp[MW]);have q1:=cS hr I (i:=1) rfl (by simp[MW,q0]);have q2:=cS hr I (i:=2) rfl (by simp[MW]);have q3:=cS hr I (i:=3) rfl (by simp[MW,q1,q2]);have q4:=cS hr I (i:=4) rfl (by simp[MW]);have q5:=cS hr I (i:=5) rfl (by simp[MW]);have q6:=cS hr I (i:=6) rfl (by simp[MW,q0,q1,q2,q3,q4,q5]);have q7:=cS hr I (i:=7) rfl (by simp[MW,q0,q1,q2,q3,q4,q5,q6]);obtain⟨o,rfl,a6,g,N⟩:=q q4;obtain⟨k,rfl,Z,f⟩:=p q5;rw[q6] at g;rw[q7] at f;exact HR o k V x y z u hg (by simpa using g) (by simpa using f) (λe=>N q5 (by rw[e])) a6 Z
end
section
open Go Go.RowKit Go.Co
noncomputable def cB0:Og:=inn (inn (sqB (sqA (sqB (sqB (Tryz.f137.body.getD .skip))))))
noncomputable def cB1:Og:=inn (sqA (sqB (sqB cB0)))
noncomputable def cL2:Og:=sqB (sqA (sqB (sqB (sqB cB1))))
noncomputable def cB3:Og:=inn (sqA (sqB (sqB (inn (inn cL2)))))
noncomputable def cIn:Og:=sqB (sqB cB3)
def qB(g:Ly->LJ)(n:Ly)(v:LJ):Ly->LJ:=λd=>if d=n then v else g d
def mR(g:Ly->LJ):Lx LA:=[.int .i64 (g 0),.int .i64 (g 1),.int .i64 (g 2),.int .i64 (g 3),.int .i64 (g 4)]
def db(L:Lx (Ly->LJ)):Lx LA:=L.flatMap mR
def iq(g:Ly->LJ)(n:Ly)(a:LJ)(k:Ly):Lx (Ly->LJ):=(Mr k).map λm:Ly=>qB g n (a+(m:LJ))
def zc(g:Ly->LJ)(n:Ly)(a:LJ)(k:Ly):iq g n a (k+1)=iq g n a k++[qB g n (a+k)]:=by
 simp[iq,Qx]
def BC(g:Ly->LJ)(n:Ly)(a:LJ)(k:Ly):(iq g n a k).length=k:=by simp[iq]
def zr(L:Lx (Ly->LJ))(g:Ly->LJ):db (L++[g])=db L++mR g:=by simp[db]
def DN(g:Ly->LJ):bK (mR g):=by
 intro v a;simp only[mR,MK,NQ,or_false] at a;rcases a with rfl | rfl | rfl | rfl | rfl<;>exact⟨_,_,rfl⟩
def Tp.und152:Ya.underlying 152=Lq (.slice 101):=by rw[Tp.und];exact Tryz.underlying152
def Tp.info101p:(Ya.info? 101).map (λi=>(i.zero,i.size,i.bytes))=Lq (Lq (.agg #[.int .i64 0,.int .i64 0,.int .i64 0,.int .i64 0,.int .i64 0]),5,40):=by kernel_rfl
def Be(g:Ly->LJ)(n:Ly)(a b:LJ):(λd=>if d=n then b else qB g n a d)=qB g n b:=by
 funext d
 unfold qB;split<;>rfl
def gAt(g:Ly->LJ)(n:Ly)(a:LJ)(m:Ly):Ly->LJ:=if m=0 then g else qB g n (a+(m - 1:LJ))
def GQ(g:Ly->LJ)(n:Ly)(a:LJ)(m:Ly):(λd=>if d=n then a+(m:LJ) else gAt g n a m d)=qB g n (a+m):=by
 unfold gAt;split
 ·rfl
 ·exact Be _ _ _ _
def EA(g:Ly->LJ)(n:Ly)(a:LJ)(m:Ly):gAt g n a (m+1)=qB g n (a+m):=by
 unfold gAt;simp
def Ew(t:Ly->LA)(c w:Lt)(R:ON->Lt->Prop)(n S a k:Ly)(h mx:LJ)(g:Ly->LJ)(L:Lx (Ly->LJ))(nv:LA)(h7:t 7=.int .i64 n)(hn:n<5)(h8:t 8=nv)(h9:t 9=.pointer (Lq S))(s:c.heap[S]?=Lq (.cells #[h,mx] 26 (0,0)))(G:t 11=.pointer (Lq a))(hW:w.heap[a]?=Lq (aR g))(e9:c.heap.size<=a)(F:t 39=.int .i64 k)(D:t 40=.int .i64 0)(hg:c.gb w Lw)(q:w.ownsRow c.heap.size 101 5 nv L.length (db L))(hI:∀b,nv.ownBlock=Lq b->bM w b/\b≠a)(p6:0<=h/\h<=1000)(hk:k<=2000)(hL:L.length+k<=900000)(hR:∀(T c3 b9 b8 b7 b6 b0 a8 a7 a6 Z Y X W V U:LA) w',c.gb w' Lw->w'.ownsRow c.heap.size 101 5 T (L.length+k) (db (L++iq g n h k))->(∀b,T.ownBlock=Lq b->bM w' b) ->R ⟨#[t 0,t 1,t 2,t 3,t 4,t 5,t 6,.int .i64 n,T,.pointer (Lq S),t 10,.pointer (Lq a),c3,t 13,t 14,t 15,t 16,t 17,t 18,t 19,t 20,t 21,t 22,t 23,t 24,t 25,t 26,t 27,t 28,t 29,t 30,t 31,t 32,t 33,t 34,t 35,t 36,t 37,t 38,.int .i64 k,b9,b8,b7,b6,b0,a8,a7,a6,Z,Y,X,W,V,U,t 54,t 55,t 56,t 57],[]⟩ w') :(inn cIn).wp Ya (QF 4 (eL R)) ⟨#[t 0,t 1,t 2,t 3,t 4,t 5,t 6,t 7,t 8,t 9,t 10,t 11,t 12,t 13,t 14,t 15,t 16,t 17,t 18,t 19,t 20,t 21,t 22,t 23,t 24,t 25,t 26,t 27,t 28,t 29,t 30,t 31,t 32,t 33,t 34,t 35,t 36,t 37,t 38,t 39,t 40,t 41,t 42,t 43,t 44,t 45,t 46,t 47,t 48,t 49,t 50,t 51,t 52,t 53,t 54,t 55,t 56,t 57],[]⟩ w:=by
 have⟨i0,e7,e5,e4,d9⟩:=Pd Tp.info101p;have⟨HR,HO,HW,HG,HN,HI⟩:=sr hR s hW hg q hI;have q0:S<c.heap.size:=(Lz.1 s).1;clear hR s hW hg q hI;rw[h7,h8,h9,G,F,D];clear h7 h8 h9 G F D;simp only[cIn,cB3,cL2,cB1,cB0,Vf,LQ,sqA,sqB,inn];go_wp2;go_loopw [8,40] (λov iv wr=>∃m:Ly,iv=.int .i64 m/\m<=k/\c.gb wr Lw/\wr.heap[a]?=Lq (aR (gAt g n h m))/\wr.ownsRow c.heap.size 101 5 ov (L.length+m) (db (L++iq g n h m))/\∀b,ov.ownBlock=Lq b->bM wr b/\b≠a) (λ_ iv _=>(k - intOf iv).toNat)
 case atStart=>exact⟨0,rfl,by omega,HG,HW,by simpa[iq] using HN.out,HI⟩
 case round=>
  obtain⟨m,rfl,hm,P,A,s,hN⟩:=hrel;obtain⟨oa,om,oc,rfl⟩:=cF s;have⟨N,k5,M,z⟩:=dD P A s hN;have o0:=P.cl (aa HO (o:=0) rfl);have p9:a<wr.heap.size:=(Lz.1 A).1;by_cases p7:m<k
  ·have d1:=aA A hn;have f1:=dC A;have l7:(m:LJ)<(k:LJ):=by omega
   have p4:(n:LJ)<5:=by omega
   clear P A s hN;have l4:IntKind.i64.wrap (h+(m:LJ))=h+m:=MI _ (by omega);go_upto_region 14 with(fail);obtain⟨d,i⟩:∃d,d=wr.setCell ⟨a,n,Lw⟩ (.int .i64 (h+m)):=⟨_,rfl⟩;have u:d.heap[a]?=Lq (aR (qB g n (h+m))):=by
    rw[i,<- GQ];exact kA k5 hn
   have Q:wr.gb d (Lq a):=by rw[i];exact an _ _ _ _
   have q2:c.gb d Lw:=N.out.andThen Q (by rintro j e;cases e;exact .inl e9);have q3:d.ownsRow c.heap.size 101 5 (.slice oa om oc) (L.length+m) (db (L++iq g n h m)):=M.out.kept Q (.inr λe=>by
    have:=(z _ e).2;exact this rfl)
   have q4:∀b,(MU oa om oc).ownBlock=Lq b->bM d b/\b≠a:=λb x=>by
    have⟨⟨cs,e,f,h1,h2⟩,h3⟩:=z.out b x;exact⟨⟨cs,e,f,blk Q (by intro e;cases e;exact h3 rfl) h1,h2⟩,h3⟩
   have e6:d.heap.size=wr.heap.size:=by rw[i];simp
   have r0:=aA u (show 0<5 by omega);have r1:=aA u (show 1<5 by omega);have r2:=aA u (show 2<5 by omega);have r3:=aA u (show 3<5 by omega);have r4:=aA u (show 4<5 by omega);rw[<- i];have⟨I,g8,H,y⟩:=dD u q2 q3 q4;have l9:a<d.heap.size:=by omega
   have p5:c.heap.size<=d.heap.size:=q2.size;clear u q2 q3 q4 Q i d1 f1 o0 e6;generalize B:qB g n (h+(m:LJ))=gg at r0 r1 r2 r3 r4 I;go_wp2_with (at_builtin;(refine lP (by rfl) _ _ _ (by rfl) c.heap.size 101 i0 _ 5 40 Tp.und152 e7 e5 e4 d9 rfl (by omega) (.slice oa om oc) (L.length+m) (db (L++iq g n h m)) (by rfl) (by exact H.alloc _) ⟨d.heap.size,0,Lw⟩ 1 1 (mR gg) (by rfl) (by rfl) (Of (cs:=(mR gg).toArray) (t:=101) (fr:=(0,0)) (LS d _)) (by simp[mR,OV]) (by omega) (by unfold Qe;omega) (by omega) (by simp;omega) (d.heap.size+1) (by simp) (λb x=>by have⟨⟨cs,e,f,h1,h2⟩,_⟩:=y.out b x;exact⟨cs,e,f,aD h1,h2⟩) (DN gg) (by intro v hv;simp[Value.cells] at hv;exact⟨_,_,hv⟩) ?_);intro gi q6 w5 l p C p8 r;have O:=Lu p;have g9:=Lu l;have k6:=Lu C;have k0:=Lu r;clear p l C r);refine⟨⟨m+1,by simp,by omega,?_,?_,?_,?_⟩,by simp[intOf];omega⟩
   ·exact(g8.t (Lr _ _ Lw)).andThen O λj e=>.inl (H.lt j e).1
   ·rw[EA,B];exact blk O (λe=>(y a e.symm).2 rfl) (aD I)
   ·rw[zc,<- OE,zr,B];exact g9
   ·intro b x;have e8:gi=b:=by simpa[MP] using x
    subst e8;refine⟨k0,?_⟩;rcases k6 with e | e
    ·exact(y gi e).2
    ·omega
  ·obtain rfl:m=k:=by omega
   clear P A s hN;go_wp2;exact HR _ _ _ _ _ _ _ _ _ _ _ _ _ _ _ _ wr N M λb x=>(z b x).1
def An(x:LM LA)(h:x.size=58):∃y0 y1 y2 y3 y4 y5 y6 y7 y8 y9 b0 a8 a7 a6 Z Y X W V U T S R Q P O N M L I H G F D C B A z y w v u s r q p o n l k j i g f d c b a,x=#[y0,y1,y2,y3,y4,y5,y6,y7,y8,y9,b0,a8,a7,a6,Z,Y,X,W,V,U,T,S,R,Q,P,O,N,M,L,I,H,G,F,D,C,B,A,z,y,w,v,u,s,r,q,p,o,n,l,k,j,i,g,f,d,c,b,a]:=by
 have e:=jI x;rw[h] at e;exact⟨_,_,_,_,_,_,_,_,_,_,_,_,_,_,_,_,_,_,_,_,_,_,_,_,_,_,_,_,_,_,_,_,_,_,_,_,_,_,_,_,_,_,_,_,_,_,_,_,_,_,_,_,_,_,_,_,_,_,e.t rfl⟩
def Kr(z:LM LA)(h:z.size=58):z=#[z[0]?.getD LI,z[1]?.getD LI,z[2]?.getD LI,z[3]?.getD LI,z[4]?.getD LI,z[5]?.getD LI,z[6]?.getD LI,z[7]?.getD LI,z[8]?.getD LI,z[9]?.getD LI,z[10]?.getD LI,z[11]?.getD LI,z[12]?.getD LI,z[13]?.getD LI,z[14]?.getD LI,z[15]?.getD LI,z[16]?.getD LI,z[17]?.getD LI,z[18]?.getD LI,z[19]?.getD LI,z[20]?.getD LI,z[21]?.getD LI,z[22]?.getD LI,z[23]?.getD LI,z[24]?.getD LI,z[25]?.getD LI,z[26]?.getD LI,z[27]?.getD LI,z[28]?.getD LI,z[29]?.getD LI,z[30]?.getD LI,z[31]?.getD LI,z[32]?.getD LI,z[33]?.getD LI,z[34]?.getD LI,z[35]?.getD LI,z[36]?.getD LI,z[37]?.getD LI,z[38]?.getD LI,z[39]?.getD LI,z[40]?.getD LI,z[41]?.getD LI,z[42]?.getD LI,z[43]?.getD LI,z[44]?.getD LI,z[45]?.getD LI,z[46]?.getD LI,z[47]?.getD LI,z[48]?.getD LI,z[49]?.getD LI,z[50]?.getD LI,z[51]?.getD LI,z[52]?.getD LI,z[53]?.getD LI,z[54]?.getD LI,z[55]?.getD LI,z[56]?.getD LI,z[57]?.getD LI]:=by
 obtain⟨y0,y1,y2,y3,y4,y5,y6,y7,y8,y9,a7,a6,Z,Y,X,W,V,U,T,S,R,Q,P,O,N,M,L,I,H,G,F,D,C,B,A,y,x,w,v,u,t,s,r,q,p,o,n,l,k,j,i,g,f,e,d,c,b,a,rfl⟩:=An z h;rfl
def dm:Lx Ly:=[8,12,40,41,42,43,44,45,46,47,48,49,50,51,52,53]
def Ev(z:LM LA)(hz:z.size=58)(a w:Lt)(R:ON->Lt->Prop)(n u e k:Ly)(i D:LJ)(g:Ly->LJ)(L:Lx (Ly->LJ))(h:LA)(h7:z[7]?=Lq (.int .i64 n))(s:n<5)(h8:z[8]?=Lq h)(h9:z[9]?=Lq (.pointer (Lq u)))(hO:a.heap[u]?=Lq (.cells #[i,D] 26 (0,0)))(B:z[11]?=Lq (.pointer (Lq e)))(hW:w.heap[e]?=Lq (aR g))(x:a.heap.size<=e)(A:z[39]?=Lq (.int .i64 k))(y:z[40]?=Lq (.int .i64 0))(hg:a.gb w Lw)(o:w.ownsRow a.heap.size 101 5 h L.length (db L))(hI:∀b,h.ownBlock=Lq b->bM w b/\b≠e)(v:0<=i/\i<=1000)(hk:k<=2000)(hL:L.length+k<=900000)(hR:∀(r:LM LA) (f:LA) d,r.size=58->r[8]?=Lq f->(∀j,j<58->j∉dm->r[j]?=z[j]?)->a.gb d Lw->d.ownsRow a.heap.size 101 5 f (L.length+k) (db (L++iq g n i k))->(∀b,f.ownBlock=Lq b->bM d b)->R ⟨r,[]⟩ d) :(inn cIn).wp Ya (QF 4 (eL R)) ⟨z,[]⟩ w:=by
 generalize c:(λk:Ly=>z[k]?.getD LI)=t;have l:z=#[t 0,t 1,t 2,t 3,t 4,t 5,t 6,t 7,t 8,t 9,t 10,t 11,t 12,t 13,t 14,t 15,t 16,t 17,t 18,t 19,t 20,t 21,t 22,t 23,t 24,t 25,t 26,t 27,t 28,t 29,t 30,t 31,t 32,t 33,t 34,t 35,t 36,t 37,t 38,t 39,t 40,t 41,t 42,t 43,t 44,t 45,t 46,t 47,t 48,t 49,t 50,t 51,t 52,t 53,t 54,t 55,t 56,t 57]:=by subst c;exact Kr z hz
 have G:t 7=.int .i64 n:=by subst c;show z[7]?.getD LI=_;rw[h7];rfl
 have e8:t 8=h:=by subst c;show z[8]?.getD LI=_;rw[h8];rfl
 have F:t 9=.pointer (Lq u):=by subst c;show z[9]?.getD LI=_;rw[h9];rfl
 have q:t 11=.pointer (Lq e):=by subst c;show z[11]?.getD LI=_;rw[B];rfl
 have p:t 39=.int .i64 k:=by subst c;show z[39]?.getD LI=_;rw[A];rfl
 have C:t 40=.int .i64 0:=by subst c;show z[40]?.getD LI=_;rw[y];rfl
 rw[l];refine Ew t a w R n u e k i D g L h G s e8 F hO q hW x p C hg o hI v hk hL ?_;intro f Z Y X W V U T S Q P O N M I H d a1 a2 a3;refine hR _ f d rfl rfl (λj hj s=>?_) a1 a2 a3;rw[l,<- G,<- F,<- q,<- p];unfold dm at s;obtain rfl | rfl | rfl | rfl | rfl | rfl | rfl | rfl | rfl | rfl | rfl | rfl | rfl | rfl | rfl | rfl | rfl | rfl | rfl | rfl | rfl | rfl | rfl | rfl | rfl | rfl | rfl | rfl | rfl | rfl | rfl | rfl | rfl | rfl | rfl | rfl | rfl | rfl | rfl | rfl | rfl | rfl | rfl | rfl | rfl | rfl | rfl | rfl | rfl | rfl | rfl | rfl | rfl | rfl | rfl | rfl | rfl | rfl:j=0\/j=1\/j=2\/j=3\/j=4\/j=5\/j=6\/j=7\/j=8\/j=9\/j=10\/j=11\/j=12\/j=13\/j=14\/j=15\/j=16\/j=17\/j=18\/j=19\/j=20\/j=21\/j=22\/j=23\/j=24\/j=25\/j=26\/j=27\/j=28\/j=29\/j=30\/j=31\/j=32\/j=33\/j=34\/j=35\/j=36\/j=37\/j=38\/j=39\/j=40\/j=41\/j=42\/j=43\/j=44\/j=45\/j=46\/j=47\/j=48\/j=49\/j=50\/j=51\/j=52\/j=53\/j=54\/j=55\/j=56\/j=57:=by omega
 all_goals first | rfl | (exact absurd (by simp) s)
def fT(L:Lx (Ly->LJ))(n:Ly)(a:LJ)(k:Ly):Lx (Ly->LJ):=L.flatMap λg=>iq g n a k
def iN(L:Lx (Ly->LJ))(n:Ly)(a:LJ)(k:Ly):(fT L n a k).length=L.length*k:=by
 unfold fT;induction L with
 | nil=>simp
 | cons g L b=>simp only[Oo,Na,BC,b,LX];rw[Sx];omega
def yu(L:Lx (Ly->LJ))(n:Ly)(a:LJ)(k:Ly)(i:Ly)(g:Ly->LJ)(h:L[i]?=Lq g):fT (L.take (i+1)) n a k=fT (L.take i) n a k++iq g n a k:=by
 rw[Np,h];simp[fT]
def tO(L:Lx (Ly->LJ))(i:Ly)(g:Ly->LJ)(h:L[i]?=Lq g)(d:Ly)(c:d<5):(db L)[i*5+d]?=Lq (.int .i64 (g d)):=by
 unfold db;induction L generalizing i with
 | nil=>simp at h
 | cons b L a=>
  cases i with
  | zero=>
   simp at h;subst h;rw[Oo,Mv (by simp[mR];omega)];obtain rfl | rfl | rfl | rfl | rfl:d=0\/d=1\/d=2\/d=3\/d=4:=by omega
   all_goals simp[mR]
  | succ i=>
   simp at h;rw[Oo,Nz (by simp[mR];omega)];rw[show(i+1)*5+d - (mR b).length=i*5+d from by simp[mR];omega];exact a i h
def eH{R:ON->Lt->Prop}{Q:SS->ON->Lt->Prop}{id:Ly}(h:∀a w,R a w->Q .normal a w):∀e a w,QF id (eL R) e a w->QF id Q e a w:=by
 intro e a w b;cases e with
 | normal=>exact h a w b
 | exit i=>
  unfold QF at b ⊢;by_cases d:i=id
  ·simp only[d,if_true] at b ⊢;exact h a w b
  ·simp only[d,if_false] at b;exact b.elim
 | goto l=>exact b.elim
 | ret=>exact b.elim
 | panic c=>exact b.elim
 | outgrown=>exact b.elim
def jL{c c':Og}{P:LV}{Q:SS->ON->Lt->Prop}{a:ON}{w:Lt}(e:c=c')(h:c'.wp P Q a w):c.wp P Q a w:=e ▸ h
def IV(z:LM LA)(hz:z.size=58)(w:Lt)(R:ON->Lt->Prop)(n OB A oc base k:Ly)(p x:LJ)(L:Lx (Ly->LJ))(h7:z[7]?=Lq (.int .i64 n))(hn:n<5)(h8:z[8]?=Lq (.slice Lw 0 0))(h9:z[9]?=Lq (.pointer (Lq OB)))(D:w.heap[OB]?=Lq (.cells #[p,x] 26 (0,0)))(e4:z[28]?=Lq (.slice (Lq A) L.length oc))(d9:z[29]?=Lq (.int .i64 L.length))(y:z[30]?=Lq (.int .i64 0))(C:w.ownsRow base 101 5 (.slice (Lq A) L.length oc) L.length (db L))(p4:0<=p/\p<=x/\x<=1000)(hk:(k:LJ)=x - p+1)(hL:L.length*k<=900000)(hR:∀(l:LM LA) (s:LA) N,l.size=58->l[8]?=Lq s->(∀j,j<58->j<8\/(8<j/\j<11)\/(12<j/\j<30)\/54<j->l[j]?=z[j]?)->w.gb N Lw->N.ownsRow w.heap.size 101 5 s (L.length*k) (db (fT L n p k))->(∀b,s.ownBlock=Lq b->bM N b)->R ⟨l,[]⟩ N) :(inn cL2).wp Ya (QF 2 (eL R)) ⟨z,[]⟩ w:=by
 obtain⟨y0,y1,y2,y3,y4,y5,y6,y7,y8,y9,n8,C4,C3,n7,n6,n4,n3,n2,m9,m8,m7,m6,m5,m4,m3,l9,l8,l7,C1,C0,B8,B7,B6,B5,B4,B3,A9,A8,A7,A6,A3,A0,z8,z7,z6,z2,z1,x9,x7,x6,x4,x3,x2,x1,x0,l6,l5,l4,rfl⟩:=An z hz;simp at h7 h8 h9 e4 d9 y;subst h7 h8 h9 e4 d9 y;have⟨HR,HO,HL⟩:=bL hR D C;have K5:OB<w.heap.size:=(Lz.1 D).1;have K6:L.length<=900000:=LN (Nat.le_mul_of_pos_right _ (by omega)) hL;clear hR D C hz;simp only[cL2,cB1,cB0,Vf,LQ,sqA,sqB,inn];go_wp2;go_loopw [8,30] (λov iv wr=>∃i:Ly,iv=.int .i64 i/\i<=L.length/\w.gb wr Lw/\wr.ownsRow w.heap.size 101 5 ov (i*k) (db (fT (L.take i) n p k))/\∀b,ov.ownBlock=Lq b->bM wr b) (λ_ iv _=>(L.length - intOf iv).toNat)
 case atStart=>exact⟨0,rfl,by omega,Mf _ _,by simpa[fT,db] using OF w w.heap.size 101 5,λb hb=>by simp[MP] at hb⟩
 case round=>
  obtain⟨i,rfl,hi,G,D,hN⟩:=hrel;obtain⟨P,O,q,rfl⟩:=cF D;have⟨g6,I,g5⟩:=bL G D hN;have K2:=G.size;by_cases d8:i<L.length
  ·obtain⟨g,hg⟩:∃g,L[i]?=Lq g:=⟨_,LO d8⟩;have hA:=(HL.lt A rfl).2;have M:∀d,d<5->wr.cell? ⟨A,i*5+d,Lw⟩=Lq (.int .i64 (g d)):=λd hd=>by
    have B:=HL.out.cellAt (i*5+d) (by omega);rw[tO L i g hg d hd] at B;exact G.cl B
   have c0:wr.cell? ⟨A,i*5,Lw⟩=Lq (.int .i64 (g 0)):=M 0 (by omega);have c1:=M 1 (by omega);have c2:=M 2 (by omega);have c3:=M 3 (by omega);have c4:=M 4 (by omega);have o0:=G.cl (aa HO (o:=0) rfl);have o1:=G.cl (aa HO (o:=1) rfl);have t7:(i:LJ)<(L.length:LJ):=by omega
   have K1:IntKind.i64.wrap (x - p)=x - p:=MI _ (by omega);have K0:IntKind.i64.wrap (x - p+1)=x - p+1:=MI _ (by omega);have q8:=Lu hg;clear G D hN M hg;go_upto_region 10 with(fail);obtain⟨H,F⟩:∃H,H=wr.heap.size:=⟨_,rfl⟩;obtain⟨v,h⟩:∃v,v=wr.alloc (aR g):=⟨_,rfl⟩;have q1:v.heap[H]?=Lq (aR g):=by rw[h,F];exact LS wr _
   have g1:wr.gb v Lw:=by rw[h];exact Lr _ _ Lw
   have q2:w.gb v Lw:=g6.out.t g1;have q3:v.ownsRow w.heap.size 101 5 (.slice P O q) (i*k) (db (fT (L.take i) n p k)):=by rw[h];exact I.alloc _
   have q4:∀b,(MU P O q).ownBlock=Lq b->bM v b/\b≠H:=λb hb=>by
    have⟨cs,e,f,B,h2⟩:=g5.out b hb;exact⟨⟨cs,e,f,by rw[h];exact aD B,h2⟩,by have:=(I.lt b hb).2;omega⟩
   have p0:=g1.cl o0;have p1:=g1.cl o1;rw[<- F];rw[show wr.alloc (.cells #[.int .i64 (g 0),.int .i64 (g 1),.int .i64 (g 2),.int .i64 (g 3),.int .i64 (g 4)] 101)=v from h.symm];have⟨q6,q5,q0,p9⟩:=dD q1 q2 q3 q4;have p7:w.heap.size<=H:=by omega
   clear q1 q2 q3 q4 g1 h F c0 c1 c2 c3 c4 o0 o1;go_wp2;refine Code.wp_mono (eH (R:=λa u=>∃(l:LM LA) (s:LA),a=⟨l,[]⟩/\l.size=58/\l[8]?=Lq s/\(∀j,j<58->j∉dm->l[j]?=(#[y0,y1,y2,y3,y4,y5,y6,.int .i64 n,.slice P O q,.pointer (Lq OB),n8,.pointer (Lq H),LI,n7,n6,n4,n3,n2,m9,m8,m7,m6,m5,m4,m3,l9,l8,l7,.slice (Lq A) L.length oc,.int .i64 L.length,.int .i64 i]:LM LA)[j]?\/30<j)/\(l[55]?=Lq l6/\l[56]?=Lq l5/\l[57]?=Lq l4)/\w.gb u Lw/\u.ownsRow w.heap.size 101 5 s ((i+1)*k) (db (fT (L.take (i+1)) n p k))/\∀b,s.ownBlock=Lq b->bM u b) ?_) ?_;rotate_left
   ·refine jL (c':=inn cIn) (by simp only[cIn,cB3,cL2,cB1,cB0,Vf,LQ,sqA,sqB,inn]) ?_;have r:(fT (L.take i) n p k).length=i*k:=by rw[iN,OX,UE (by omega)]
    have p5:i*k+k<=900000:=by
     have B:(i+1)*k<=L.length*k:=PF _ d8;rw[Sx] at B;omega
    refine Ev _ rfl w v _ n OB H k p x g (fT (L.take i) n p k) (.slice P O q) rfl hn rfl rfl HO rfl q6 p7 (by rw[hk];rfl) rfl q5 (by rw[r];exact q0) p9 ⟨p4.1,by omega⟩ (by omega) (by rw[r];exact p5) ?_;intro l s N b1 b2 b3 b4 b5 b6;refine⟨l,s,rfl,b1,b2,λj hj hn=>?_,⟨(b3 55 (by omega) (by simp[dm])).t rfl,(b3 56 (by omega) (by simp[dm])).t rfl,(b3 57 (by omega) (by simp[dm])).t rfl⟩,b4,?_,b6⟩
    ·by_cases y:30<j
     ·exact .inr y
     ·left;rw[b3 j hj hn];have K9:j≠12:=λe=>hn (by subst e;simp[dm]);obtain rfl | rfl | rfl | rfl | rfl | rfl | rfl | rfl | rfl | rfl | rfl | rfl | rfl | rfl | rfl | rfl | rfl | rfl | rfl | rfl | rfl | rfl | rfl | rfl | rfl | rfl | rfl | rfl | rfl | rfl:j=0\/j=1\/j=2\/j=3\/j=4\/j=5\/j=6\/j=7\/j=8\/j=9\/j=10\/j=11\/j=13\/j=14\/j=15\/j=16\/j=17\/j=18\/j=19\/j=20\/j=21\/j=22\/j=23\/j=24\/j=25\/j=26\/j=27\/j=28\/j=29\/j=30:=by omega
      all_goals rfl
    ·rw[r] at b5;rw[yu L n p k i g q8,Sx,Nat.one_mul];exact b5
   ·rintro a u ⟨l,s,rfl,d7,e8,c,⟨e7,e6,e5⟩,f1,f2,f3⟩;obtain⟨v0,v1,v2,v3,v4,v5,v6,v7,v8,v9,H6,H5,H4,H3,H2,H1,H0,G9,G8,G7,G6,G5,G4,G3,G2,G1,F9,F8,F7,F6,F5,F4,F3,F2,F1,E9,E8,E7,E6,E5,E4,E3,E2,E1,E0,D9,D8,D7,D6,D5,D4,D3,D2,D1,D0,C9,C8,C7,rfl⟩:=An l d7;simp at e8 e7 e6 e5;subst e8 e7 e6 e5;have k0:=(c 0 (by omega) (by simp[dm])).resolve_right (by omega);have k1:=(c 1 (by omega) (by simp[dm])).resolve_right (by omega);have k2:=(c 2 (by omega) (by simp[dm])).resolve_right (by omega);have k3:=(c 3 (by omega) (by simp[dm])).resolve_right (by omega);have k4:=(c 4 (by omega) (by simp[dm])).resolve_right (by omega);have k5:=(c 5 (by omega) (by simp[dm])).resolve_right (by omega);have k6:=(c 6 (by omega) (by simp[dm])).resolve_right (by omega);have k7:=(c 7 (by omega) (by simp[dm])).resolve_right (by omega);have k9:=(c 9 (by omega) (by simp[dm])).resolve_right (by omega);have d6:=(c 10 (by omega) (by simp[dm])).resolve_right (by omega);have d5:=(c 11 (by omega) (by simp[dm])).resolve_right (by omega);have c9:=(c 13 (by omega) (by simp[dm])).resolve_right (by omega);have c8:=(c 14 (by omega) (by simp[dm])).resolve_right (by omega);have b9:=(c 15 (by omega) (by simp[dm])).resolve_right (by omega);have b8:=(c 16 (by omega) (by simp[dm])).resolve_right (by omega);have b7:=(c 17 (by omega) (by simp[dm])).resolve_right (by omega);have b0:=(c 18 (by omega) (by simp[dm])).resolve_right (by omega);have a8:=(c 19 (by omega) (by simp[dm])).resolve_right (by omega);have a7:=(c 20 (by omega) (by simp[dm])).resolve_right (by omega);have a6:=(c 21 (by omega) (by simp[dm])).resolve_right (by omega);have Z:=(c 22 (by omega) (by simp[dm])).resolve_right (by omega);have Y:=(c 23 (by omega) (by simp[dm])).resolve_right (by omega);have X:=(c 24 (by omega) (by simp[dm])).resolve_right (by omega);have W:=(c 25 (by omega) (by simp[dm])).resolve_right (by omega);have V:=(c 26 (by omega) (by simp[dm])).resolve_right (by omega);have U:=(c 27 (by omega) (by simp[dm])).resolve_right (by omega);have T:=(c 28 (by omega) (by simp[dm])).resolve_right (by omega);have S:=(c 29 (by omega) (by simp[dm])).resolve_right (by omega);have Q:=(c 30 (by omega) (by simp[dm])).resolve_right (by omega);clear c d7;simp at k0 k1 k2 k3 k4 k5 k6 k7 k9 d6 d5 c9 c8 b9 b8 b7 b0 a8 a7 a6 Z Y X W V U T S Q;subst k0 k1 k2 k3 k4 k5 k6 k7 k9 d6 d5 c9 c8 b9 b8 b7 b0 a8 a7 a6 Z Y X W V U T S Q;have⟨r4,r3,q9⟩:=bL f1 f2 f3;clear f1 f2 f3 p0 p1;have H9:IntKind.i64.wrap ((i:LJ)+1)=i+1:=MI _ (by omega);dsimp only;go_wp2;go_roundw
    case rel=>exact⟨i+1,by simp,by omega,r4,r3,q9⟩
    case measure=>simp[intOf];omega
  ·obtain rfl:i=L.length:=by omega
   clear G D hN;go_wp2;refine HR _ (.slice P O q) wr rfl rfl (λj hj hc=>?_) g6 ?_ g5
   ·obtain rfl | rfl | rfl | rfl | rfl | rfl | rfl | rfl | rfl | rfl | rfl | rfl | rfl | rfl | rfl | rfl | rfl | rfl | rfl | rfl | rfl | rfl | rfl | rfl | rfl | rfl | rfl | rfl | rfl | rfl:j=0\/j=1\/j=2\/j=3\/j=4\/j=5\/j=6\/j=7\/j=9\/j=10\/j=13\/j=14\/j=15\/j=16\/j=17\/j=18\/j=19\/j=20\/j=21\/j=22\/j=23\/j=24\/j=25\/j=26\/j=27\/j=28\/j=29\/j=55\/j=56\/j=57:=by omega
    all_goals rfl
   ·have B:=I.out;rw[NH] at B;exact B
def kOf(p:Par):Ly:=(p.mx - p.mn+1).toNat
def iy(a:Lx Par)(L:Lx (Ly->LJ))(x:LJ):Lx (Ly->LJ):=match a[x.toNat]? with | some p=>fT L x.toNat p.mn (kOf p) | none=>L
def fL(b:Lx Par)(a:Lx LJ):Lx (Ly->LJ):=a.foldl (iy b) [λ_=>0]
def Cq(b:Lx Par)(a:Lx LJ)(i:Ly)(x:LJ)(p:Par)(h:a[i]?=Lq x)(c:b[x.toNat]?=Lq p):fL b (a.take (i+1))=fT (fL b (a.take i)) x.toNat p.mn (kOf p):=by
 rw[Np,h];simp[fL,Rs,iy,c]
def Cn(lo hi:Ly)(yv vv:LA)(d:Lx Par)(g:LJ)(c:Lx LJ)(w:Lt)(hY:dh lo hi w yv d g)(hI:ai lo hi w vv c)(D1:hi<=w.heap.size)(h5:d.length<=5)(hx:∀x∈c,0<=x/\x<d.length)(hp:∀p∈d,0<=p.mn/\p.mn<=p.mx/\p.mx<=1000)(Q:∀j,j<=c.length->(fL d (c.take j)).length<=900000) :MH Ya 137 #[yv,vv] w λe w'=>∃v,e=.returned v/\w.gb w' Lw/\w'.ownsRow w.heap.size 101 5 v (fL d c).length (db (fL d c))/\∀b,v.ownBlock=Lq b->bM w' b:=by
 obtain⟨qv,rfl,hP⟩:=hY;obtain⟨yb,S,rfl,C4,-⟩:=hP.cell;obtain⟨base,b8,rfl,D0,-⟩:=hI.cell;obtain⟨A,X⟩:∃A,A=w.heap.size:=⟨_,rfl⟩;obtain⟨k,h⟩:∃k,k=(w.alloc (.cells #[.slice yb d.length S,g] 91)).alloc (aR λ_=>0):=⟨_,rfl⟩;have z:w.gb k Lw:=by rw[h];exact(Lr _ _ Lw).t (Lr _ _ Lw)
 have W:k.heap[A]?=Lq (.cells #[.slice yb d.length S,g] 91 (0,0)):=by rw[h,X];exact aD (LS w _)
 have C8:k.heap.size=A+2:=by rw[h,Mc,Mc,X]
 have M:k.heap[A+1]?=Lq (aR λ_=>0):=by
  rw[h];have:=LS (w.alloc (.cells #[.slice yb d.length S,g] 91)) (aR λ_=>0);rw[Mc,<- X] at this;exact this
 have U:k.ownsRow A 101 5 (.slice (Lq (A+1:Ly)) 1 1) 1 (db [λ_=>0]):=⟨by simp[db,mR],.inr ⟨A+1,1,_,rfl,by omega,M,by omega,by unfold Qe;omega,by simp,by simp[db,mR]⟩⟩;have V:bM k (A+1):=ns M (by intro v hv;simp at hv;exact⟨_,_,hv⟩);have m5:=Lu (hI.kept z);have l8:=Lu (hP.kept z);have⟨HX,l7,HN,b9,HA,m6,n2,l9⟩:=GI hx hp Q h X z W U;have m4:=Lu V;have D2:hi<=A:=by omega
 clear hI hP hx hp Q h X z W M U V;go_enter Tp.x137,Tryz.ntmps137;go_upto_region 2 with(fail);rw[<- HA];rw[show(w.alloc (.cells #[.slice yb d.length S,g] 91)).alloc (.cells #[.int .i64 0,.int .i64 0,.int .i64 0,.int .i64 0,.int .i64 0] 101)=k from b9.symm];clear b9;go_wp2;go_loopw [5,17] (λov iv wr=>∃j:Ly,iv=.int .i64 j/\j<=c.length/\k.gb wr Lw/\wr.ownsRow A 101 5 ov (fL d (c.take j)).length (db (fL d (c.take j)))/\(∀b,ov.ownBlock=Lq b->bM wr b)/\0<(fL d (c.take j)).length) (λ_ iv _=>(c.length - intOf iv).toNat)
 case atStart=>exact⟨0,rfl,by omega,Mf _ _,by simpa[fL] using l9.out,λb hb=>(by simp[MP] at hb;subst hb;exact m4),by simp[fL]⟩
 case round=>
  obtain⟨j,rfl,hj,O,hO,Q,q⟩:=hrel;obtain⟨RA,rc,rfl,D7,q0⟩:=hO.form q;have⟨d5,c8,m3⟩:=bL O hO Q;have C7:=O.size;by_cases r:j<c.length
  ·have c9:=m5.out.kept O;have c3:=l8.out.kept O;obtain⟨b1,c1,he,-,hc⟩:=c9.cell;cases he;obtain⟨VB,vo,rfl,q6,q5,q4,C⟩:=hc (by intro e;rw[e] at r;simp at r);have x0:=C j r;obtain⟨x,s⟩:∃x,c[j]?=Lq x:=⟨_,LO r⟩;have⟨C5,D⟩:=HX.out x (Mh s);rw[s] at x0;simp only[LQ] at x0;obtain⟨n,rfl⟩:∃n:Ly,x=n:=⟨x.toNat,by omega⟩;obtain⟨b2,c2,he,-,hc⟩:=c3.cell;cases he;obtain⟨YB,yo,rfl,D5,D4,D3,T⟩:=hc (by intro e;rw[e] at D;simp at D;omega);obtain⟨p,F,p0,p1,-,-⟩:=T n (by omega);have H:=l7.out p (Mh F);have a0:=O.cl (aa n2 (o:=0) rfl);have p8:(j:LJ)<(c.length:LJ):=by omega
   have C9:(n:LJ)<(d.length:LJ):=D;have⟨k8,l6⟩:=aS s F;clear O hO Q hc C T s F c9 c3;go_upto_region 7 with(fail);obtain⟨L,y⟩:∃L,L=fL d (c.take j):=⟨_,rfl⟩;obtain⟨OB,N⟩:∃OB,OB=wr.heap.size:=⟨_,rfl⟩;obtain⟨B,l⟩:∃B,B=wr.alloc (.cells #[p.mn,p.mx] 26):=⟨_,rfl⟩;have h8:n<5:=by omega
   have h9:((kOf p:Ly):LJ)=p.mx - p.mn+1:=by unfold kOf;omega
   have I:fL d (c.take (j+1))=fT L n p.mn (kOf p):=by rw[Cq d c j n p k8 (by simpa using l6.out),<- y];simp
   have k6:L.length*kOf p<=900000:=by have:=HN.out (j+1) r;rw[I,iN] at this;exact this
   have q1:B.heap[OB]?=Lq (.cells #[p.mn,p.mx] 26 (0,0)):=by rw[l,N];exact LS wr _
   have q2:wr.gb B Lw:=by rw[l];exact Lr _ _ Lw
   have q3:B.ownsRow A 101 5 (.slice (Lq RA) L.length rc) L.length (db L):=by rw[l,y];exact c8.alloc _
   have g9:A<=B.heap.size:=by have:=q2.size;omega
   rw[<- y] at q ⊢;rw[<- N];rw[show wr.alloc (.cells #[p.mn,p.mx] 26)=B from l.symm];have⟨l5,l4,k9,d6⟩:=dD q1 q2 q3 I;clear q1 q2 q3 I l N y x0 p0 p1 a0;go_wp2;refine Code.wp_mono (eH (R:=λa u=>∃(f:LM LA) (P:LA),a=⟨f,[]⟩/\f.size=58/\f[8]?=Lq P/\(f[0]?=Lq (.agg #[.slice (Lq ⟨YB,yo,Lw⟩) d.length S,g])/\f[1]?=Lq (.slice (Lq ⟨VB,vo,Lw⟩) c.length b8)/\f[2]?=Lq (.pointer (Lq A))/\f[3]?=Lq (LI)/\f[4]?=Lq (.slice Lw 0 0)/\f[6]?=Lq (LI)/\f[10]?=Lq (LI)/\f[13]?=Lq (.agg #[.int .i64 0,.int .i64 0,.int .i64 0,.int .i64 0,.int .i64 0])/\f[14]?=Lq (.slice (Lq (A+1:Ly)) 1 1)/\f[15]?=Lq (.slice (Lq ⟨VB,vo,Lw⟩) c.length b8)/\f[16]?=Lq (.int .i64 c.length)/\f[17]?=Lq (.int .i64 j)/\f[57]?=Lq (LI))/\k.gb u Lw/\u.ownsRow A 101 5 P (fL d (c.take (j+1))).length (db (fL d (c.take (j+1))))/\∀b,P.ownBlock=Lq b->bM u b) ?_) ?_;rotate_left
   ·refine jL (c':=inn cL2) (by simp only[cL2,cB1,cB0,Vf,LQ,sqA,sqB,inn]) ?_;refine IV _ rfl B _ n OB RA rc A (kOf p) p.mn p.mx L rfl h8 rfl rfl l5 rfl rfl rfl k9 ⟨H.1,H.2.1,H.2.2⟩ h9 k6 ?_;intro f P w' b1 b2 i b4 b5 b6;refine⟨f,P,rfl,b1,b2,⟨(i 0 (by omega) (by omega)).t rfl,(i 1 (by omega) (by omega)).t rfl,(i 2 (by omega) (by omega)).t rfl,(i 3 (by omega) (by omega)).t rfl,(i 4 (by omega) (by omega)).t rfl,(i 6 (by omega) (by omega)).t rfl,(i 10 (by omega) (by omega)).t rfl,(i 13 (by omega) (by omega)).t rfl,(i 14 (by omega) (by omega)).t rfl,(i 15 (by omega) (by omega)).t rfl,(i 16 (by omega) (by omega)).t rfl,(i 17 (by omega) (by omega)).t rfl,(i 57 (by omega) (by omega)).t rfl⟩,(d5.t l4).t b4,?_,b6⟩;rw[d6,iN];exact wJ b5 g9
   ·rintro a u ⟨f,P,rfl,g8,e8,⟨e0,e1,e2,e3,e4,e6,b7,b0,a8,a7,a6,Z,Y⟩,f1,f2,f3⟩;have G:0<(fL d (c.take (j+1))).length:=by
     rw[d6,iN];exact Nat.mul_pos q (by omega)
    obtain⟨v0,v1,v2,v3,v4,v5,v6,v7,v8,v9,C1,C0,B9,B8,B7,B6,B5,B4,B3,A9,A8,A7,A6,A4,A3,A0,z8,z7,z6,z2,z1,x9,x7,x6,x5,x4,x3,x2,x1,w9,w8,w6,u9,u8,u7,u6,u5,u0,t8,t7,t6,t2,t1,s9,s8,s7,s6,s5,rfl⟩:=An f g8;simp at e8 e0 e1 e2 e3 e4 e6 b7 b0 a8 a7 a6 Z Y;subst e8 e0 e1 e2 e3 e4 e6 b7 b0 a8 a7 a6 Z Y;have⟨m9,m8,m7⟩:=bL f1 f2 f3;clear f1 f2 f3;have C6:IntKind.i64.wrap ((j:LJ)+1)=j+1:=MI _ (by omega);dsimp only;go_wp2;go_roundw
    case rel=>exact⟨j+1,by simp,by omega,m9,m8,m7,G⟩
    case measure=>simp[intOf];omega
  ·obtain rfl:j=c.length:=by omega
   clear O hO Q;go_wp2;go_ret;refine⟨_,rfl,m6.t d5,?_,m3⟩;have h1:=c8.out;rw[<- HA];simpa[NH] using h1
end
section
open Go Go.RowKit Go.Co
def Tp.info3p:(Ya.info? 3).map (λi=>(i.zero,i.size,i.bytes))=Lq (Lq (.int .i64 0),1,8):=by kernel_rfl
def Tp.und29':Ya.underlying 29=Lq (.slice 3):=by rw[Tp.und];exact QC
def rl{w:Lt}{base n a:Ly}{v:LA}{l:Lx LJ}(h:w.ownsRow base 3 1 v n (l.map (Mp .i64)))(s:l.length<=1000000)(o:w.heap.size<=a):ai base a w v l:=by
 have j:n=l.length:=by have:=h.1;simpa using this.symm
 subst j;rcases h.2 with⟨rfl,r⟩ | ⟨g,d,c,rfl,q,e,_,_,p,f⟩
 ·have:l=[]:=MT r;subst this;exact .nil _ _ _
 ·have k:=(Lz.1 e).1;refine⟨_,d,rfl,by omega,λ_=>⟨g,0,c,_,rfl,q,by omega,e,λi a=>?_⟩⟩;have b:(l.map (Mp .i64))[i]?=Lq (.int .i64 (l[i]?.getD 0)):=by simp[LO a]
  rw[<- f,QZ] at b;split at b
  ·rw[Mn];simpa using b
  ·cases b
def gX{w:Lt}{B o j:Ly}{u:LA}(h:w.cell? ⟨B,o+j,Lw⟩=Lq u):w.cell? ((⟨B,o,Lw⟩:MN).add j)=Lq u:=by
 have e:(⟨B,o,Lw⟩:MN).add j=⟨B,o+j,Lw⟩:=by unfold Addr.add;split<;>simp_all
 rw[e];exact h
def eq_nil(w:Lt):(binOp .eql 29 (.slice Lw 0 0) (.slice Lw 0 0)).run Ya w=.ok (.bool LG) w:=by kernel_rfl
def uU(w:Lt)(B o n c:Ly):(binOp .eql 29 (.slice (Lq ⟨B,o,Lw⟩) n c) (.slice Lw 0 0)).run Ya w=.ok (.bool LH) w:=by kernel_rfl
attribute [local simp] eq_nil uU
attribute [local go_sem] eq_nil uU
def oK(G z:Ly)(v:LA)(l:Lx LJ)(w:Lt)(P:ai G z w v l)(M:z<=w.heap.size)(p:l≠[]\/v=.slice Lw 0 0)(W:l.length<=1000) :MH Ya 84 #[v] w λe f=>∃y,e=.returned y/\w.gb f Lw/\ai w.heap.size f.heap.size f y l:=by
 have⟨H,r,k,i,g⟩:=Pd Tp.info3p;by_cases s:l=[]
 ·subst s;have I:v=.slice Lw 0 0:=p.resolve_left (λh=>h rfl);subst I;go_enter Tp.x84,Uy;go_wp2;go_ret;exact⟨_,rfl,Mf _ _,.nil _ _ _⟩
 ·obtain⟨base,t,rfl,L,A⟩:=P;obtain⟨B,o,Q,fr,rfl,Y,X,D,C⟩:=A s;have d:0<l.length:=Pr.2 s;have S:=Lu (show ∀j u,(l.map (Mp .i64))[j]?=Lq u->Q[o+j]?=Lq u from λj u c=>by
   rw[NO] at c;cases hj:l[j]? with
   | none=>rw[hj] at c;cases c
   | some x=>
    rw[hj] at c;cases c;have q:=(Md.1 hj).1;have:=C j q;rw[hj] at this;exact this)
  have U:=Lu D;clear A C D;go_enter Tp.x84,Uy;go_wp2_with (at_builtin;(refine TP _ (by rfl) _ _ _ (by rfl) w.heap.size 3 H _ 1 8 Tp.und29' r k i g rfl (by omega) (.slice (Lq w.heap.size) 0 0) 0 [] (by rfl) ⟨by simp,.inr ⟨w.heap.size,0,#[],rfl,by omega,LS w _,by omega,by unfold Qe;omega,by simp,by simp⟩⟩ ⟨B,o,Lw⟩ l.length t (l.map (Mp .i64)) (by rfl) (by simp) (λj u c=>gX (aa (aD U) (S j u c))) (by intro u c;simp at c;obtain⟨x,_,rfl⟩:=c;rfl) d (by unfold Qe;omega) (by omega) (by simp) (w.heap.size+1) (by simp) ?_);intro Z F V a b O N;have T:=Lu b;have R:=Lu a;clear b a);go_ret;refine⟨_,rfl,(Lr _ _ Lw).andThen T (λj e=>.inl ?_),rl (n:=0+l.length) (by simpa using R.out) (by omega) (LC _)⟩;simp[MP] at e;omega
end
section
open Go.RowKit Go.Co
def wI{w c:Lt}{base a n:Ly}{e:LZ}{v:LA}{b:Lx LA}(h:w.ownsRow base e a v n b)(d:w.gb c Lw):c.ownsRow base e a v n b:=h.kept d (VU (v.ownBlock=Lw))
def Ab{w:Lt}{base a n k c:Ly}{e:LZ}{b:LU MN}{d:Lx LA}(h:w.ownsRow base e a (.slice b k c) n d):k<=c:=by
 rcases h.2 with⟨h,-⟩ | ⟨g,j,i,h,-,-,f,-⟩
 ·cases h;exact LC _
 ·cases h;exact f
def lS(a:Lx Par)(l:Lx LJ)(x:LJ):aV a (l++[x])=aV a l+dQ a x:=by simp[aV]
structure HpI(b g Q B0 n i:Ly)(ps:Lx Par)(lim:LJ)(pv:LA)(ord l:Lx LJ)(ov:LA)(w0 w wr:Lt):Prop where
 sub:l.Sublist (ord.take i)
 tall:aV ps l<=lim
 t0:0<=aV ps l
 own:wr.ownsRow B0 3 1 ov l.length (l.map (Mp .i64))
 tin:aZ wr b (g+i)
 gr:w.grownBy wr (Lq b)
 gr0:w0.grownBy wr (Lq b)
 ints:∀j,ov.ownBlock=Lq j->bM wr j
def DX{d:Lx Par}{c:LJ}{a l:Lx LJ}{i:Ly}(e:kT d.length a)(j:d.length<=5)(h:l.Sublist (a.take i))(g:aV d l<=c):POk d c l:=by
 have b:l.Sublist a:=h.t (VY _ _);exact⟨λx f=>e.all x (b.subset f),e.nd.sublist b,g,by have:=b.length_le;have:=e.len;omega⟩
def AP{a:Lx Par}{m:Ly}{p:Par}(h:a[m]?=Lq p):dQ a (m:LJ)=p.tall:=by simp[dQ,h]
def Df{a l:Lx LJ}{i:Ly}(h:l.Sublist (a.take i)):l.Sublist (a.take (i+1)):=h.t (by rw[Np];exact List.sublist_append_left _ _)
def De{a l:Lx LJ}{i:Ly}{x:LJ}(h:l.Sublist (a.take i))(b:a[i]?=Lq x):(l++[x]).Sublist (a.take (i+1)):=by
 rw[Np,b];exact h.append (List.Sublist.refl _)
def zk(b g:Ly)(lo:Ly)(pv:LA)(a:Lx Par)(q:LJ)(w:Lt)(ht:aZ w b g)(hg:g<90000)(hP:aC lo w.heap.size w pv a)(b6:b<lo)(h5:a.length<=5)(l4:0<=q)(v7:q<=1000)(a6:∀p∈a,0<=p.tall/\p.tall<=100) :MH Ya 34 #[.pointer (Lq ⟨b,0,Lw⟩),.agg #[pv,q]] w λe w'=>∃l v,POk a q l/\e=.returned v/\Tn b (g+11) w w'/\ai w.heap.size w'.heap.size w' v l/\(∀b n c,v=.slice b n c->n<=c)/\∀ad m c,v=.slice (Lq ad) m c->bM w' ad.block:=by
 have⟨i0,l5,k0,h9,h8⟩:=Pd Tp.info3p;obtain⟨yb,yc,rfl,u6,-⟩:=hP.cell;obtain⟨Q,hQ⟩:∃Q,Q=w.heap.size:=⟨_,rfl⟩;have w6:b<Q:=by rw[hQ];exact ht.lt
 have⟨HT,HQ,HP,m8⟩:=dD ht hQ hP a6;clear ht hQ hP a6;go_enter Tp.x34,Tryz.ntmps34;go_upto_region 1 with(fail);rw[<- HQ];refine pN (λu=>w.gb u (Lq b)/\aZ u b g/\u.heap[Q]?=Lq (.cells #[.slice yb a.length yc,q] 24 (0,0))) ⟨Lr _ _ _,HT.alloc _,by rw[HQ];exact LS _ _⟩ (λw1 hF=>?_);obtain⟨g1,t1,q1⟩:=hF;have c0:=aa q1 (o:=0) rfl;have c1:=aa q1 (o:=1) rfl;have⟨G1,T1,Q1⟩:=bL g1 t1 q1;clear g1 t1 q1;go_wp2_with (go_at_call 72;refine(ow b g a.length _ T1 (by omega) (by omega)).mono ?_;rintro e I ⟨N,ov,C,rfl,a8,P⟩;have N2:=Lu a8;have I2:=Lu P;have s:=Lu C;obtain⟨ob,oc,eo,-,-⟩:=P.cell;rw[C.len] at eo;subst eo;clear a8 P C);have q2:=blk N2.1 (by simp;omega) Q1;have Q2:=Lu q2;have W:=Lu (G1.t N2.1);have T2:=Lu N2.2;have q3:w.heap.size<=w1.heap.size:=G1.out.size;have q6:=oz Q1;have m7:=Lu (I2.mono (show Q+1<=w1.heap.size by omega) (LC _));have P2:=Lu (HP.kept W (λR e=>by cases e;exact .inl b6));clear q2 c0 c1 Q1 G1 T1 N2 I2;go_loopw [5,6,8] (λov tv iv wr=>∃(i:Ly) (l:Lx LJ),iv=.int .i64 i/\tv=.int .i64 (aV a l)/\i<=a.length/\HpI b (g+a.length) Q I.heap.size a.length i a q (.slice yb a.length yc) N l ov I w wr) (λ_ _ iv _=>(a.length - intOf iv).toNat)
 case atStart=>exact⟨0,[],rfl,rfl,by omega,⟨by simp,by simpa[aV] using l4,by simp[aV],OF _ _ _ _,T2,W,Mf _ _,λj e=>by cases e⟩⟩
 case round=>
  obtain⟨i,l,rfl,rfl,hi,V⟩:=hrel;obtain⟨z,y,d,rfl⟩:=cF V.own;have f:=Lu V;have O:=V.tall;have k7:=V.t0;have v6:l.length<=5:=by have:=V.sub.length_le;rw[OX] at this;omega
  clear V;by_cases b0:i<a.length
  ·have q4:(i:LJ)<(a.length:LJ):=by omega
   have u9:IntKind.i64.wrap ((i:LJ)+1)=(i:LJ)+1:=MI _ (by omega);obtain⟨x,hx⟩:∃x,N[i]?=Lq x:=⟨_,LO (by rw[s.len];exact b0)⟩;have Y:=s.out.all x (Mh hx);obtain⟨m,rfl⟩:=Qb Y.1;have hm:m<a.length:=by omega
   have v2:(m:LJ)<(a.length:LJ):=by omega
   have HX:=Lu hx;clear hx Y;go_wp2_with (fail);refine(vH b (g+a.length+i) 5 _ f.tin (by omega) (by omega) (by omega)).mono ?_;rintro e w5 ⟨⟨tr,rfl⟩,D,-⟩;have g5:I.gb w5 (Lq b):=f.out.gr0.t D.1;have⟨T,G5⟩:=aS D g5;have I5:=Lu (λ(j:Ly) (e:(MU z y d).ownBlock=Lq j)=>(f.ints j e).kept D.1 (λe2=>by have h1:=(f.own.lt j e).1;have h2:=T2.out.lt;cases e2;omega));have O5:=Lu (f.own.kept D.1 (by
    by_cases e:(MU z y d).ownBlock=Lq b
    ·have h1:=(f.own.lt b e).1;have h2:=T2.out.lt;omega
    ·exact .inr e))
   clear D g5;cases tr with
   | true=>
    go_wp2;go_ret;exact⟨l,_,DX s h5 f.sub O,rfl,⟨f.gr.t T.1,T.2.mono (by omega)⟩,(ai.own O5 (by have:=f.out.sub.length_le;rw[OX] at this;omega)).mono (by have:=W.out.size;omega) (LC _),λ_ _ _ e=>(by cases(show MU z y d=_ from e);exact Ab O5),λad m2 c2 e=>by cases(show MU z y d=_ from e);exact(f.ints _ rfl).kept T.1 (λe2=>by have h1:=(f.own.lt _ rfl).1;have h2:=T2.out.lt;cases e2;omega)⟩
   | false=>
    have b7:=m7.out.kept G5 (λR e=>by cases e;exact .inl (by omega));obtain⟨t8,t7,eo,-,a7⟩:=b7.cell;injection eo with eo1 eo2 eo3;subst eo1 eo3;clear eo2;obtain⟨OB,oo,rfl,-,-,x5,F⟩:=a7 (by intro e;have:=s.out.len;rw[e] at this;simp at this;omega);have x1:=F i (by rw[s.len];exact b0);rw[HX] at x1;simp only[LQ] at x1;have q5:=blk G5 (by simp;omega) Q2;have p5:=P2.out.kept G5 (λR e=>by cases e;exact .inl b6);obtain⟨s6,s5,ey,-,X⟩:=p5.cell;cases ey;obtain⟨YB,yo,rfl,-,x0,x2,r⟩:=X (by intro e;rw[e] at hm;simp at hm);have⟨p,hp,p0,p1,p2,p3⟩:=r m hm;have v1:=m8.out p (Mh hp);have Z:=AP hp;have d0:=aa q5 (o:=0) rfl;have d1:=aa q5 (o:=1) rfl;have⟨U,Q5⟩:=aS Z q5;have k6:IntKind.i64.wrap (aV a l+p.tall)=aV a l+p.tall:=MI _ (by omega);clear b7 F a7 p5 X r q5 hp Z p0 p1 p2;obtain⟨tl,A⟩:∃tl,tl=aV a l:=⟨_,rfl⟩;rw[<- A] at O k6 k7 ⊢;have H:=Lu A;clear A;by_cases b8:tl+p.tall<=q
    ·go_wp2_with (fail);go_quiet (fail);go_wp2_with (fail);have h:w5.gb (w5.drewN nq) Lw:=ay _ _ _;generalize w5.drewN nq=w7 at h ⊢;have g7:=G5.out.andThen h (by simp);have e0:=aa (bk h Q5) (o:=0) rfl;have e1:=h.cl p3;have q7:=bk h Q5;have Q7:=Lu q7;have x4:Q<w7.heap.size:=oz q7;have x3:YB<w7.heap.size:=by have:=h.size;omega
     have I7:=Lu (λ(j:Ly) (e:(MU z y d).ownBlock=Lq j)=>(I5 j e).kept h);have O7:=Lu (wI O5 h);have T7:=Lu (T.2.kept h);have G7:=Lu g7;have GW:=Lu ((f.gr.t T.1).andThen h (by simp));clear h g7 d0 d1 x1 p3 Q5;have I8:=Lu (λ(j:Ly) (e:(MU z y d).ownBlock=Lq j)=>(I7 j e).kept (Lr w7 (.cells #[.int .i64 m] 3) Lw));have N8:=Lu (show bK [Mp .i64 m] from λv hv=>⟨_,_,Nl.1 hv⟩);have Z8:=Lu (show bK (Mp .i64 0).cells.toList from λv hv=>by simp[Value.cells] at hv;exact⟨_,_,hv⟩);have l6:Lq Q≠(MU z y d).ownBlock:=λe=>by have:=(O7.lt Q e.symm).1;have:=oz Q2;omega
     go_region_law
      (first
       | (refine iM (by rfl) _ _ _ (by rfl) I.heap.size 3 i0 _ 1 8 Tp.und29' l5 k0 h9 h8 rfl (by omega) (.slice z y d) l.length (l.map (Mp .i64)) (by rfl) (by exact O7.alloc _) ⟨w7.heap.size,0,Lw⟩ 1 1 [.int .i64 m] (by rfl) (by rfl) (Of (cs:=#[.int .i64 m]) (t:=3) (fr:=(0,0)) (LS w7 _)) (by simp[OV]) (by omega) (by unfold Qe;omega) (by omega) (by simp;have:=G7.out.size;omega) (w7.heap.size+1) (by simp) I8 N8 Z8 ?_;intro gg m4 w8 B k w9 v8 L;have m9:=Lu L;clear L;have B8:=blk k l6 (aD Q7);have z2:=aa B8 (o:=0) rfl;have z1:=k.cell ((Lr w7 (.cells #[.int .i64 m] 3) Lw).cl e1) (λe=>by have h1:I.heap.size<=YB:=(O7.lt _ e.symm).1;have:=W.out.size;omega);have u8:Q<w8.heap.size:=oz B8;have u7:YB<w8.heap.size:=(by have:=k.size;simp at this;omega);have HG:=Lu k;have HO:=Lu B;clear B8 B))
     all_goals
      have G:∀j,(MU z y d).ownBlock=Lq j->I.heap.size<=j:=λj e=>(O7.lt j e).1;have x6:=W.out.size;have HH:(w7.alloc (.cells #[.int .i64 m] 3)).gb w8 (MU z y d).ownBlock:=⟨HG.os,HG.tape,HG.output,HG.size,HG.block⟩;have S:=Lr w7 (.cells #[.int .i64 m] 3) Lw;have M:HpI b (g+a.length) Q I.heap.size a.length (i+1) a q (.slice (Lq ⟨YB,yo,Lw⟩) a.length yc) N (l++[(m:LJ)]) (.slice (Lq gg) (l.length+1) m4) I w w8 :=
       ⟨De f.sub HX,by rw[lS,U,<- H];exact b8,by rw[lS,U,<- H];omega,by rw[Na,NJ];exact HO,(T7.alloc _).kept HH (λj e=>by have:=G j e;have:=T2.out.lt;omega),xu (GW.andThen S (by simp)) HH (λj e=>by have:=G j e;omega),xu (G7.andThen S (by simp)) HH (λj e=>G j e),λj e=>by simp[MP] at e;subst e;exact m9⟩
      have FF:=Lu M;have FT:=Lu (show tl+p.tall=aV a (l++[(m:LJ)]) by rw[lS,U,<- H]);clear M G S;go_wp2;go_roundw
      case rel=>exact⟨i+1,l++[(m:LJ)],by simp,by rw[FT],by omega,FF⟩
      case measure=>simp[intOf];omega
    ·go_wp2_with (fail);go_quiet (fail);go_wp2_with (fail);go_roundw
     case rel=>
      exact⟨i+1,l,by simp,by rw[H],by omega,Df f.sub,f.tall,f.t0,wI O5 (ay _ _ Lw),T.2.kept (ay _ _ Lw),(f.gr.t T.1).t (ay _ _ _),G5.t (ay _ _ _),λj e=>(I5 j e).kept (ay _ _ Lw)⟩
     case measure=>simp[intOf];omega
  ·obtain rfl:i=a.length:=by omega
   go_wp2;go_ret;exact⟨l,_,DX s h5 f.sub O,rfl,⟨f.gr,f.tin.mono (by omega)⟩,(ai.own f.own (by have:=f.out.sub.length_le;rw[OX] at this;omega)).mono (by have:=W.out.size;omega) (LC _),λ_ _ _ e=>(by cases(show MU z y d=_ from e);exact Ab f.own),λad m2 c2 e=>by cases(show MU z y d=_ from e);exact f.ints _ rfl⟩
def zl(b g:Ly)(i:Ly)(h:LA)(d:Lx Par)(a:LJ)(w:Lt)(s:aZ w b g)(t:g<90000)(u:aC i w.heap.size w h d)(k:b<i)(r:d.length<=5)(q:0<=a)(o:a<=1000)(j:∀p∈d,0<=p.tall/\p.tall<=100) :MH Ya 34 #[.pointer (Lq ⟨b,0,Lw⟩),.agg #[h,a]] w λe f=>∃l v,POk d a l/\e=.returned v/\Tn b (g+11) w f/\ai w.heap.size f.heap.size f v l/\∀b n c,v=.slice b n c->n<=c :=
 (zk b g i h d a w s t u k r q o j).mono λ_ _ ⟨l,v,A,z,y,x,r,_⟩=>⟨l,v,A,z,y,x,r⟩
def zm(b g:Ly)(h:Ly)(f:LA)(c:Lx Par)(a:LJ)(w:Lt)(o:aZ w b g)(q:g<90000)(r:aC h w.heap.size w f c)(j:b<h)(s:c.length<=5)(n:0<=a)(k:a<=1000)(i:∀p∈c,0<=p.tall/\p.tall<=100) :MH Ya 34 #[.pointer (Lq b),.agg #[f,a]] w λe d=>∃l v,POk c a l/\e=.returned v/\Tn b (g+11) w d/\ai w.heap.size d.heap.size d v l :=
 (zl b g h f c a w o q r j s n k i).mono λ_ _ ⟨l,v,y,x,u,t,_⟩=>⟨l,v,y,x,u,t⟩
end
section
open Go.RowKit
def iC(x y:LJ):LJ:=if x<y then -1 else if y<x then 1 else 0
def bC:Lx LJ->Lx LJ->LJ
 | [],[]=>0
 | [],_::_=>-1
 | _::_,[]=>1
 | x::a,y::b=>if iC x y≠0 then iC x y else bC a b
def Hi(x y:LJ)(w:Lt):MH Ya 157 #[x,y] w λe d=>e=.returned (.int .i64 (iC x y))/\w=d:=by
 unfold iC;by_cases c:x<y
 ·rw[if_pos c];go_enter Tp.x157,Vx;go_wp2_with (go_at_call 198;refine(lk _ _).mono ?_;rintro e a ⟨rfl,rfl⟩);go_ret;exact⟨rfl,rfl⟩
 ·rw[if_neg c];by_cases b:y<x
  ·rw[if_pos b];go_enter Tp.x157,Vx;go_wp2_with (go_at_call 198;refine(lk _ _).mono ?_;rintro e a ⟨rfl,rfl⟩);go_ret;exact⟨rfl,rfl⟩
  ·rw[if_neg b];go_enter Tp.x157,Vx;go_wp2_with (go_at_call 198;refine(lk _ _).mono ?_;rintro e a ⟨rfl,rfl⟩);go_ret;exact⟨rfl,rfl⟩
def Ck(a b:Lx LJ)(k:Ly)(x y:LJ)(d:a[k]?=Lq x)(c:b[k]?=Lq y):bC (a.drop k) (b.drop k)=if iC x y≠0 then iC x y else bC (a.drop (k+1)) (b.drop (k+1)):=by
 have⟨f,h⟩:=Md.1 d;have⟨e,g⟩:=Md.1 c;rw[Oc f,Oc e,h,g];rfl
def pk(P Y O X:Ly)(D C:LA)(a b:Lx LJ)(w:Lt)(H:ai P Y w D a)(G:ai O X w C b) :MH Ya 122 #[D,C] w λe N=>e=.returned (.int .i64 (bC a b))/\w=N:=by
 obtain⟨ba,ca,rfl,T,L⟩:=H.cell;obtain⟨bb,cb,rfl,S,I⟩:=G.cell;have⟨H1,H2⟩:=aS L I;clear L I H G;go_enter Tp.x122,Tryz.ntmps122;go_wp2;go_loopw [11] (λr wr=>∃k:Ly,r=.int .i64 k/\k<=a.length/\k<=b.length/\bC a b=bC (a.drop k) (b.drop k)/\w=wr) (λr _=>(a.length - intOf r).toNat)
 case atStart=>exact⟨0,rfl,by omega,by omega,rfl,rfl⟩
 case round=>
  obtain⟨k,rfl,hk,U,F,rfl⟩:=hrel;have p:=Lu F;clear F;by_cases d:k<a.length
  ·obtain⟨x,v⟩:∃x,a[k]?=Lq x:=⟨_,LO d⟩;obtain⟨A1,o1,rfl,b6,b0,a8,l⟩:=H1.out (by intro e;rw[e] at d;simp at d);have B:=l k d;rw[v] at B;simp only[LQ] at B;have W:(k:LJ)<(a.length:LJ):=by omega
   have E1:=Lu v;clear l v;by_cases c:k<b.length
   ·obtain⟨y,u⟩:∃y,b[k]?=Lq y:=⟨_,LO c⟩;obtain⟨B1,o2,rfl,a7,a6,Z,j⟩:=H2.out (by intro e;rw[e] at c;simp at c);have A:=j k c;rw[u] at A;simp only[LQ] at A;have V:(k:LJ)<(b.length:LJ):=by omega
    have i:=Ck a b k x y E1.out u;have h:=Lu i;have g:=Hi x y w;clear j u i;generalize iC x y=z at g h;have o:=Lu g;clear g;by_cases q:z=0
    ·subst q;go_wp2_with (go_at_call 157;refine(o.out).mono ?_;rintro e M ⟨rfl,rfl⟩);go_roundw
     case rel=>exact⟨k+1,by simp,by omega,by omega,by rw[p.out,h.out];simp,by first | trivial | rfl⟩
     case measure=>simp[intOf];omega
    ·have Q:(z != 0)=LG:=by simpa using q
     have HZ:=Lu q;clear q;go_wp2_with (go_at_call 157;refine(o.out).mono ?_;rintro e M ⟨rfl,rfl⟩);go_ret;exact⟨by rw[p.out,h.out,if_pos HZ.out];rfl,rfl⟩
   ·have R:(b.length:LJ)<=(k:LJ):=by omega
    have f:bC a b=1:=by
     rw[p.out,Pm (show b.length<=k by omega),Oc d];rfl
    have n:=Lu f;clear f;go_wp2;go_ret;exact⟨by rw[n.out];rfl,rfl⟩
  ·obtain rfl:k=a.length:=by omega
   by_cases t:a.length<b.length
   ·have s:(a.length:LJ)<(b.length:LJ):=by omega
    have f:bC a b=-1:=by
     rw[p.out,Pm (LC _),Oc t];rfl
    have n:=Lu f;clear f;go_wp2;go_ret;exact⟨by rw[n.out];rfl,rfl⟩
   ·have s:¬ (a.length:LJ)<(b.length:LJ):=by omega
    have f:bC a b=0:=by
     rw[p.out,Pm (LC _),Pm (show b.length<=a.length by omega)];rfl
    have n:=Lu f;clear f;go_wp2;go_ret;exact⟨by rw[n.out];rfl,rfl⟩
def pg(j l i k:Ly)(d c:LA)(a b:Lx LJ)(w:Lt)(h:ai j l w d a)(g:ai i k w c b) :MH Ya 99 #[d,c] w λe n=>e=.returned (.bool (decide (bC a b<0)))/\w=n:=by
 have f:=pk j l i k d c a b w h g;obtain⟨y,v,rfl,p,r⟩:=h.cell;obtain⟨x,u,rfl,o,q⟩:=g.cell;clear r q h g;generalize bC a b=z at f ⊢;have s:=Lu f;clear f;go_enter Tp.x99,Tryz.ntmps99;go_wp2_with (go_at_call 122;refine(s).mono ?_;rintro e t ⟨rfl,rfl⟩);go_ret;exact⟨rfl,rfl⟩
def lI(a b:Lx LJ):MC:=decide (b.length<a.length) || (decide (a.length=b.length) && decide (bC a b<0))
def tI(s u r t:Ly)(i h:LA)(a b:Lx LJ)(w:Lt)(o:ai s u w i a)(n:ai r t w h b) :MH Ya 98 #[i,h] w λe v=>e=.returned (.bool (lI a b))/\w=v:=by
 have l:=pg s u r t i h a b w o n;obtain⟨G,D,rfl,y,B⟩:=o.cell;obtain⟨F,C,rfl,x,A⟩:=n.cell;unfold lI;generalize decide (bC a b<0)=z at l ⊢;have p:=Lu l;clear l B A o n;by_cases d:b.length<a.length
 ·have j:(b.length:LJ)<(a.length:LJ):=by omega
  have f:(decide (b.length<a.length) || (decide (a.length=b.length) && z))=LG:=by simp[d]
  have g:=Lu f;clear f d;go_enter Tp.x98,VZ;go_wp2_with (go_at_call 99;refine(p).mono ?_;rintro e q ⟨rfl,rfl⟩);go_ret;exact⟨by rw[g];rfl,rfl⟩
 ·have j:¬ (b.length:LJ)<(a.length:LJ):=by omega
  by_cases c:a.length=b.length
  ·have k:((a.length:LJ) == (b.length:LJ))=LG:=by simp[c]
   have f:(decide (b.length<a.length) || (decide (a.length=b.length) && z))=z:=by simp[c]
   have g:=Lu f;clear f d c;go_enter Tp.x98,VZ;go_wp2_with (go_at_call 99;refine(p).mono ?_;rintro e q ⟨rfl,rfl⟩);go_ret;exact⟨by rw[g];rfl,rfl⟩
  ·have k:((a.length:LJ) == (b.length:LJ))=LH:=by rw[beq_eq_false_iff_ne];omega
   have f:(decide (b.length<a.length) || (decide (a.length=b.length) && z))=LH:=by simp[c];omega
   have g:=Lu f;clear f d c;go_enter Tp.x98,VZ;go_wp2_with (go_at_call 99;refine(p).mono ?_;rintro e q ⟨rfl,rfl⟩);go_ret;exact⟨by rw[g];rfl,rfl⟩
def aJ(n:Ly):Lx LJ:=(Mr n).map λ(i:Ly)=>(i:LJ)
def bw(n:Ly):(aJ n).length=n:=by simp[aJ]
def Bz(n:Ly):aJ (n+1)=aJ n++[(n:LJ)]:=by simp[aJ,Qx]
def ea(q:LU MN)(n p:Ly)(f:LJ)(w:Lt)(X:n<=1000) :MH Ya 100 #[.agg #[.slice q n p,f]] w λe r=>∃v,e=.returned v/\w.gb r Lw/\ai w.heap.size r.heap.size r v (aJ n):=by
 have⟨P,z,y,x,u⟩:=Pd Tp.info3p;have⟨Y,d,G,g,c,h⟩:=fg w (.cells #[.slice q n p,f] 91);have W:d.cell? Y=Lq (.slice q n p):=aa h rfl;have S:Y<=d.heap.size:=by have:=c.size;omega
 have⟨A,T,i⟩:=bL g G c;clear g G c h;go_enter Tp.x100,Tryz.ntmps100;go_upto_region 1 with(fail);rw[<- T,<- A];go_wp2;go_loopw [3,9] (λL s wr=>∃k:Ly,s=.int .i64 k/\k<=n/\d.gb wr Lw/\wr.ownsRow d.heap.size 3 1 L k ((aJ k).map (Mp .i64))) (λ_ s _=>(n - intOf s).toNat)
 case atStart=>exact⟨0,rfl,by omega,Mf _ _,OF _ _ _ _⟩
 case round=>
  obtain⟨k,rfl,Z,o,l⟩:=hrel;obtain⟨O,M,N,rfl⟩:=cF l;have⟨I,C⟩:=aS o l;have Q:=o.size;by_cases R:k<n
  ·have F:(k:LJ)<(n:LJ):=by omega
   clear o l;go_wp2_with (at_builtin;(refine wpList_append_own _ rfl _ _ 29 rfl d.heap.size 3 P _ 1 8 Tp.und29' z y x u rfl (by decide) (.slice O M N) k _ rfl (C.alloc _) ⟨wr.heap.size,0,Lw⟩ 1 1 [.int .i64 k] rfl rfl (Of (cs:=#[k]) (t:=3) (fr:=(0,0)) (LS wr _)) (by simp[OV]) (by unfold Qe;omega) (by omega) (by simp;omega) ?_);intro V U a b _;obtain⟨g',H,rfl⟩:=ownsRow_succ a;have B:=Lu a;have D:=Lu b;clear a b);go_roundw
   case rel=>
    refine⟨k+1,by simp,by omega,(I.t (Lr _ _ Lw)).andThen D (λj e=>.inl (C.lt j e).1),?_⟩;rw[Bz,NJ];exact B
   case measure=>simp[intOf];omega
  ·obtain rfl:k=n:=by omega
   clear o l;go_wp2;go_ret;exact⟨_,rfl,i.t I,(ai.own C (by rw[bw];omega)).mono i.size (LC _)⟩
def Kv(L:Ly)(s:MC)(d c:LA)(a x:Lx LJ)(w b:Lt):Prop :=
 w.gb b (Lq L)/\b.heap[L]?=Lq (.cells #[.func (.func 98) #[] #[],if s=LG/\lI x a=LH then d else c,.bool LG] 108 (0,0))
def CW(L:Ly)(s:MC)(k g:LA)(a x:Lx LJ)(w:Lt)(c:w.heap[L]?=Lq (.cells #[.func (.func 98) #[] #[],k,.bool s] 108 (0,0)))(j:ai 0 w.heap.size w k a)(i:ai 0 w.heap.size w g x) :MH Ya 103 #[.pointer (Lq L),g] w λe q=>e=.returned (.tuple #[])/\Kv L s k g a x w q:=by
 obtain⟨z,y,rfl,-,-⟩:=j.cell;obtain⟨f,d,rfl,-,-⟩:=i.cell;have v:w.cell? L=Lq (.func (.func 98) #[] #[]):=aa c rfl;have u:w.cell? ⟨L,1,Lw⟩=Lq (.slice z a.length y):=aa c rfl;have r:w.cell? ⟨L,2,Lw⟩=Lq (.bool s):=aa c rfl;have B:w.frozen? ⟨L,1,Lw⟩=LH:=aB c;have A:w.frozen? ⟨L,2,Lw⟩=LH:=aB c;have⟨l,o,n⟩:=bL c j i;have C:=Lu (Mm v (Mm u r));clear c j i;go_enter Tp.x103,Xt;cases s with
 | false=>
  go_wp2_with (fail);go_quiet (fail);go_wp2;go_end0;refine⟨rfl,((ay _ _ _).t (an _ _ _ _)).t (an _ _ _ _),?_⟩;rw[if_neg (by simp ),ar (show((w.drewN nq).setCell ⟨L,1,Lw⟩ (.slice f x.length d)).heap[L]?=Lq (.cells #[.func (.func 98) #[] #[],.slice f x.length d,.bool LH] 108 (0,0)) by rw[ar (show(w.drewN nq).heap[L]?=_ from l)];rfl)];rfl
 | true=>
  cases hl:lI x a with
  | true=>
   have b:=Lu hl;clear hl;go_wp2_with (fail);go_quiet (first | (go_at_call 98;refine Ov ((tI 0 w.heap.size 0 w.heap.size _ _ x a _ (n.kept (ay _ _ Lw)) (o.kept (ay _ _ Lw))).mono (λe p h=>⟨by rw[h.1,b],h.2.symm⟩))));go_wp2;go_end0;refine⟨rfl,((ay _ _ _).t (an _ _ _ _)).t (an _ _ _ _),?_⟩;rw[if_neg (by simp[b.out]),ar (show((w.drewN nq).setCell ⟨L,1,Lw⟩ (.slice f x.length d)).heap[L]?=Lq (.cells #[.func (.func 98) #[] #[],.slice f x.length d,.bool LG] 108 (0,0)) by rw[ar (show(w.drewN nq).heap[L]?=_ from l)];rfl)];rfl
  | false=>
   have b:=Lu hl;clear hl;go_wp2_with (fail);go_quiet (first | (go_at_call 98;refine Ov ((tI 0 w.heap.size 0 w.heap.size _ _ x a _ (n.kept (ay _ _ Lw)) (o.kept (ay _ _ Lw))).mono (λe p h=>⟨by rw[h.1,b],h.2.symm⟩))));go_wp2;go_end0;refine⟨rfl,(ay _ _ _),?_⟩;rw[if_pos ⟨rfl,b⟩];exact l
end
section
open Go Go.RowKit
def A5(l:Lx LJ):LA:=.agg (l.map (Mp .i64)).toArray
def Tp.und118:Ya.underlying 118=Lq (.array 5 3):=by rw[Tp.und];exact Tryz.underlying118
def Tp.und120:Ya.underlying 120=Lq (.map 118 3):=by rw[Tp.und];exact Tryz.underlying120
def Tp.und3q:Ya.underlying 3=Lq (.int .i64):=by rw[Tp.und];exact Tryz.underlying3
def Hy(l:Lx LJ)(i:Ly)(x:LJ)(h:l[i]?=Lq x)(w:Lt):(part 3 (l.map (Mp .i64)).toArray i).run Ya w=.ok (.int .i64 x) w :=
 run_part_plain w (by kernel_rfl) (by simp[h])
def EW(x y:LJ)(s t:Lx LJ):decide (x::s=y::t)=((x == y) && decide (s=t)):=by
 by_cases e:x=y<;>simp[e]
def xG(a b:Lx LJ)(d:a.length=b.length)(w:Lt):∀(m k:Ly),k+m=a.length->(Op.eqItems 9999 3 1 (a.map (Mp .i64)).toArray (b.map (Mp .i64)).toArray (QS k m)).run Ya w=.ok (decide (a.drop k=b.drop k)) w
 | 0,k,h=>by
  rw[Pm (by omega),Pm (by omega)];simp[Op.eqItems]
 | m+1,k,h=>by
  have c:=xG a b d w m (k+1) (by omega);have g:a[k]?=Lq a[k]:=LO (by omega);have f:b[k]?=Lq b[k]:=LO (by omega);rw[List.range'_succ];simp only[Op.eqItems,Nat.mul_one,NF,Hy a k _ g,Hy b k _ f,NC,run_equalIn_int w 9998 3 .i64 .i64 _ _ Tp.und3q];have e:decide (a.drop k=b.drop k)=((a[k] == b[k]) && decide (a.drop (k+1)=b.drop (k+1))):=by
   rw[Oc (show k<a.length by omega),Oc (show k<b.length by omega)];exact EW _ _ _ _
  rw[e];cases(a[k] == b[k])
  ·simp
  ·simpa using c
def Lc(a b:Lx LJ)(f:a.length=5)(e:b.length=5)(w:Lt):(Op.equalIn 10000 118 (A5 a) (A5 b)).run Ya w=.ok (decide (a=b)) w:=by
 obtain⟨i,c⟩:∃i,Ya.info? 3=Lq i:=⟨_,(Pd Tp.info3p).choose_spec.1⟩;have d:Ya.cellsOf 3=1:=by kernel_rfl
 unfold A5;rw[show(10000:Ly)=9999+1 from rfl,run_equalIn_array w 9999 _ _ Tp.und118 c,d,List.range_eq_range',xG a b (by omega) w 5 0 (by omega)];rfl
def EB(a:Lx LJ)(o:a.length=5)(w:Lt):∀(b:Lx Pv) (K:Lx (Lx LJ)) (i:Ly),b.map (·.key)=K.map A5->(∀k∈K,k.length=5)->(∀e∈b,∃v:LJ,e.val=.int .i64 v) ->∃r,(Qk 118 (A5 a) b i).run Ya w=.ok r w/\(a∈K->∃j v,r=Lq (j,.int .i64 v))/\(a∉K->r=Lw)
 | [],K,i,h,_,_=>by
  have:K=[]:=by simpa using h.symm
  subst this;exact⟨Lw,by simp[Qk],by simp,by simp⟩
 | e::b,[],i,h,_,_=>by simp at h
 | e::b,k::K,i,h,p,l=>by
  simp only[PS,OT] at h;have q:=Lc a k o (p k (by simp)) w;have n:(Op.equal 118 (A5 a) e.key).run Ya w=.ok (decide (a=k)) w:=by rw[h.1];exact q
  by_cases f:a=k
  ·subst f;have⟨v,g⟩:=l e (by simp);refine⟨Lq (i,e.val),?_,λ_=>⟨i,v,by rw[g]⟩,λd=>absurd (by simp) d⟩;simp only[Qk,NF,n,NC,decide_true,if_true,RO]
  ·have⟨r,u,t,s⟩:=EB a o w b K (i+1) h.2 (λx c=>p x (by simp[c])) (λx c=>l x (by simp[c]));refine⟨r,?_,λhm=>t ((MK.1 hm).resolve_left f),λd=>s λhm=>d (by simp[hm])⟩;simp only[Qk,NF,n,NC];simpa[f] using u
def Kk(a b:LM LA)(v:LA)(n:Ly)(c:Lx Pv)(w:Lt):(QG 118 (.agg a) (⟨.agg b,v,n⟩::c)).run Ya w=(Qk 118 (.agg a) (⟨.agg b,v,n⟩::c)).run Ya w:=by kernel_rfl
def xx(a:Lx LJ)(g:a.length=5)(w:Lt)(b:Lx Pv)(K:Lx (Lx LJ))(h:b.map (·.key)=K.map A5)(i:∀k∈K,k.length=5)(d:∀e∈b,∃v:LJ,e.val=.int .i64 v) :∃r,(QG 118 (A5 a) b).run Ya w=.ok r w/\(a∈K->∃j v,r=Lq (j,.int .i64 v))/\(a∉K->r=Lw):=by
 cases b with
 | nil=>
  have:K=[]:=by simpa using h.symm
  subst this;exact⟨Lw,by unfold A5;kernel_rfl,by simp,by simp⟩
 | cons e b=>
  obtain⟨k,c,rfl⟩:∃k c,K=k::c:=by
   cases K with
   | nil=>simp at h
   | cons k c=>exact⟨k,c,rfl⟩
  have⟨r,n,l⟩:=EB a g w (e::b) (k::c) 0 h i d;refine⟨r,?_,l⟩;obtain⟨p,o,q⟩:=e;have f:p=A5 k:=by simpa using(List.cons.inj h).1
  subst f;exact(Kk _ _ o q b w).t n
def zE(b:MC)(a:Lx LJ)(h:a.length=5)(w:Lt):(PV b 10000 118 (A5 a)).run Ya w=.ok () w:=by
 obtain⟨g,f,e,d,c,rfl⟩:∃g f e d c,a=[g,f,e,d,c]:=by
  rcases a with _ | ⟨g,_ | ⟨f,_ | ⟨e,_ | ⟨d,_ | ⟨c,_ | ⟨i,t⟩⟩⟩⟩⟩⟩<;>simp at h;exact⟨g,f,e,d,c,rfl⟩
 show(PV b 10000 118 (.agg #[.int .i64 g,.int .i64 f,.int .i64 e,.int .i64 d,.int .i64 c])).run Ya w=.ok () w;kernel_rfl
def cP(w:Lt)(r:Ly)(K:Lx (Lx LJ)):Prop :=
 ∃b a,w.heap[r]?=Lq (.map b a)/\b.toList.map (·.key)=K.map A5/\(∀k∈K,k.length=5)/\∀e∈b.toList,∃v:LJ,e.val=.int .i64 v
def cP.look{w:Lt}{r:Ly}{K:Lx (Lx LJ)}(h:cP w r K)(a:Lx LJ)(b:a.length=5):∃v:LJ,(RL 120 (.map (Lq r)) (A5 a) LG).run Ya w=.ok (.tuple #[v,.bool (decide (a∈K))]) w:=by
 obtain⟨o,c,e,n,l,k⟩:=h;have⟨q,d,g,f⟩:=xx a b w o.toList K n l k;have i:∀w,(QL 3).run Ya w=.ok (.int .i64 0) w:=λw=>by kernel_rfl
 by_cases hm:a∈K
 ·obtain⟨j,v,rfl⟩:=g hm;refine⟨v,?_⟩;simp[RL,NF,SN Tp.und120,getObj,Nm,e,RF,zE _ a b,d,hm]
 ·obtain rfl:=f hm;refine⟨0,?_⟩;simp[RL,NF,SN Tp.und120,getObj,Nm,e,RF,zE _ a b,d,hm,i]
def cP.add{w:Lt}{r:Ly}{K:Lx (Lx LJ)}(h:cP w r K)(a:Lx LJ)(d:a.length=5)(u:a∉K)(v:LJ):∃o,(∀m t,o≠.cells m t (0,0))/\(NI 120 (.map (Lq r)) (A5 a) (.int .i64 v)).run Ya w=.ok () (w.putObj r o)/\∀c,c.heap[r]?=Lq o->cP c r (K++[a]):=by
 obtain⟨l,b,y,j,i,g⟩:=h;have⟨q,p,z,n⟩:=xx a d w l.toList K j i g;obtain rfl:=n u;refine⟨.map (l.push ⟨A5 a,.int .i64 v,b⟩) (b+1),(λm t e=>(by cases e)),?_,λc s=>⟨_,_,s,by simp[j],λk x=>?_,λe f=>?_⟩⟩
 ·simp[NI,NF,SN Tp.und120,getObj,setObj,Nm,y,RF,zE _ a d,p,XQ]
 ·rcases Ob.1 x with h | h
  ·exact i k h
  ·rw[Nl.1 h];exact d
 ·rw[Array.toList_push] at f;rcases Ob.1 f with h | h
  ·exact g e h
  ·rw[Nl.1 h];exact⟨v,rfl⟩
def cP.nil{w:Lt}{r:Ly}(h:w.heap[r]?=Lq (.map #[] 0)):cP w r []:=⟨_,_,h,rfl,by simp,by simp⟩
def cP.kept{w d:Lt}{r:Ly}{K:Lx (Lx LJ)}(h:cP w r K)(e:d.heap[r]?=w.heap[r]?):cP d r K:=by
 obtain⟨i,a,g,f⟩:=h;exact⟨i,a,e.t g,f⟩
end
section
open Go.RowKit
def nJ(n1:Ly)(G:Ly->Prop)(W:Lt)(v:LA)(l:Lx LJ):Prop:=ai n1 W.heap.size W v l/\∀B o n c,v=.slice (Lq ⟨B,o,Lw⟩) n c->l≠[]->¬ G B
def nJ.bod{n1:Ly}{G G':Ly->Prop}{A C:Lt}{v:LA}{l:Lx LJ}(h:nJ n1 G A v l)(d:Bod n1 n1 G G' A C):nJ n1 G' C v l:=by
 obtain⟨⟨base,i,rfl,u,j⟩,k⟩:=h;refine⟨⟨base,i,rfl,u,λa=>?_⟩,λB o n c e a w=>?_⟩
 ·have⟨B,o,s,p,b,g,f,r,q⟩:=j a;exact⟨B,o,s,p,b,g,LY f d.size,(d.keep B f (.inl g) (k B o _ _ (by rw[b]) a)).t r,q⟩
 ·have⟨y,x,s,p,b,g,f,r,q⟩:=j a;rw[b] at e;cases e;exact(d.fp _ w).elim (k _ _ _ _ (by rw[b]) a) (by omega)
def eh{n1 B:Ly}{G:Ly->Prop}{A C:Lt}(a:A.gb C Lw):Bod n1 B G G A C:=⟨a.tape,a.size,λk b _ _=>a.block k b (by simp),λ_ h=>.inl h⟩
structure py(n1 E Lv Gp:Ly)(lb:LU MN)(lc:Ly)(ws:Lx LJ)(fE:Nh)(dJ:LM LA)(G:Ly->Prop)(W:Lt):Prop where
 en:W.heap[E]?=Lq (.cells #[.func (.func fE) #[] dJ] 51 (0,0))
 ls:W.heap[Lv]?=Lq (.cells #[.slice lb ws.length lc] 29 (0,0))
 li:nJ n1 G W (.slice lb ws.length lc) ws
 gr:W.heap[Gp]?=Lq (.cells #[.func (.func 136) #[] #[.pointer (Lq E),.pointer (Lq Lv),.pointer (Lq Gp)]] 151 (0,0))
 ge:n1<=E/\n1<=Lv/\n1<=Gp
 nf:¬ G E/\¬ G Lv/\¬ G Gp
section
variable{n1 E Lv Gp:Ly}{lb:LU MN}{lc:Ly}{ws:Lx LJ}{fE:Nh}{dJ:LM LA}{G G':Ly->Prop}{A C:Lt}
def py.bod(h:py n1 E Lv Gp lb lc ws fE dJ G A)(a:Bod n1 n1 G G' A C):py n1 E Lv Gp lb lc ws fE dJ G' C:=by
 have d:=(Lz.1 h.en).1;have c:=(Lz.1 h.ls).1;have b:=(Lz.1 h.gr).1;exact⟨(a.keep E d (.inl h.ge.1) h.nf.1).t h.en,(a.keep Lv c (.inl h.ge.2.1) h.nf.2.1).t h.ls,h.li.bod a,(a.keep Gp b (.inl h.ge.2.2) h.nf.2.2).t h.gr,h.ge,
  λe=>(a.fp _ e).elim h.nf.1 (by omega),λe=>(a.fp _ e).elim h.nf.2.1 (by omega),λe=>(a.fp _ e).elim h.nf.2.2 (by omega)⟩
end
def FE(ws:Lx LJ)(done L:Lx (Lx LJ)):Prop:=∃t,cy ws 0=done++(L++t)
structure Cb(n1:Ly)(ws:Lx LJ)(fE:Nh)(dJ:LM LA)(I:Lx (Lx LJ)->(Ly->Prop)->Lt->Prop):Prop where
 hI:∀s G A C,I s G A->A.grownBy C Lw->I s G C
 hlt:∀s G A,I s G A->∀k,G k->k<A.heap.size
 en:∀a w,(callFunc fE a).run Ya w=.ok (.enter fE a) w
 cb:∀done G W v c,I done G W->ai 0 W.heap.size W v c->(c≠[]\/v=.slice Lw 0 0)->c.Sublist ws->FE ws done [c] ->
  MH Ya fE (#[v]++dJ) W λe W'=>e=.returned (.bool LH)/\∃G',I (done++[c]) G' W'/\Bod n1 n1 G G' W W'
def GrA(n1:Ly)(I:Lx (Lx LJ)->(Ly->Prop)->Lt->Prop)(L:Lx (Lx LJ))(done:Lx (Lx LJ))(G:Ly->Prop)(W:Lt)(e:Ending)(a:Lt):Prop :=
 e=.returned (.bool LH)/\∃G',I (done++L) G' a/\Bod n1 n1 G G' W a
def Kh{n1 E Lv Gp:Ly}{lb:LU MN}{lc:Ly}{ws:Lx LJ}{fE:Nh}{dJ:LM LA}{I:Lx (Lx LJ)->(Ly->Prop)->Lt->Prop}(p:Cb n1 ws fE dJ I){a:Lx LJ}{b:Ly}{i:LU MN}{g:Ly}{W:Lt}{G:Ly->Prop}{done:Lx (Lx LJ)}(c:a.Sublist (ws.take b))(n:py n1 E Lv Gp lb lc ws fE dJ G W)(o:nJ n1 G W (.slice i a.length g) a)(f:a≠[]\/MU i a.length g=.slice Lw 0 0)(d:FE ws done (cM ws 0 a b))(h:I done G W) :MH Ya 136 #[.slice i a.length g,b,.int .i64 (0:Ly),.pointer (Lq E),.pointer (Lq Lv),.pointer (Lq Gp)] W (GrA n1 I (cM ws 0 a b) done G W):=by
 have u:W.cell? E=Lq (.func (.func fE) #[] dJ):=aa n.en rfl;have q:=p.en;have l:=p.cb done G W _ a h (o.1.mono (Mw _) (LC _)) f (c.trans (VY _ _)) d;have r:=Lu l;clear l n o h f d;go_enter Tp.x136,Xu;go_wp2_with (refine(r).mono ?_;rintro e t ⟨rfl,s,k,j⟩);go_ret;exact⟨rfl,s,k,j⟩
def kJ(w:Lt)(a b:Ly)(e:LZ):a<=Qa w a b e:=by
 unfold Qa;simp only[Question.cut];omega
def tz{w:Lt}{l:Lx LJ}{zs:LM LA}(d:l.length<=1000000)(a:Ly) :ai w.heap.size (w.drew.alloc (.cells ((l.map (Mp .i64)).toArray++zs) 3)).heap.size (w.drew.alloc (.cells ((l.map (Mp .i64)).toArray++zs) 3)) (.slice (Lq w.heap.size) l.length a) l:=by
 have c:(w.drew.alloc (.cells ((l.map (Mp .i64)).toArray++zs) 3)).heap[w.heap.size]?=Lq (.cells ((l.map (Mp .i64)).toArray++zs) 3 (0,0)):=LS w.drew _;refine⟨_,a,rfl,by omega,λ_=>⟨w.heap.size,0,_,_,rfl,LC _,?_,c,λi b=>?_⟩⟩
 ·exact(Lz.1 c).1
 ·rw[Mn,PG (by simpa using b)];simp[LO b]
def Bh{w:Lt}{z:LU MN}{M B:Ly}{a:Lx LJ}{x:LJ}(y:LZ)(I:ai 0 w.heap.size w (.slice z a.length M) a)(N:w.cell? B=Lq (.int .i64 x))(S:a.length<=1000) :∃g d u,(PI #[29,29] y #[.slice z a.length a.length,.slice (Lq B) 1 1]).run Ya w=.ok (.slice (Lq ⟨g,0,Lw⟩) (a.length+1) d) u/\w.heap.size<=g/\w.gb u Lw /\ai w.heap.size u.heap.size u (.slice (Lq ⟨g,0,Lw⟩) (a.length+1) d) (a++[x])/\a.length+1<=d:=by
 have⟨H,s,r,h,q⟩:=Pd Tp.info3p;have f:∀j v,([Mp .i64 x]:Lx LA)[j]?=Lq v->w.cell? ((⟨B,0,Lw⟩:MN).add j)=Lq v:=λj v k=>by
  have:j=0:=by have:=(Md.1 k).1;simp at this;omega
  subst this;simp at k;subst k;simpa[Addr.add] using N
 have p:(a++[x]).length=a.length+1:=by simp
 cases z with
 | none=>
  have R:a=[]:=by
   refine MX λD=>?_;obtain⟨base,d,e,_,n⟩:=I;cases e;have⟨B,o,U,T,F,_⟩:=n D;cases F
  subst R;have n:=run_append_nil (P:=Ya) w 29 y 3 H _ Tp.und29' s r ⟨B,0,Lw⟩ 1 1 [Mp .i64 x] (by rw[h];rfl) f (by omega) (by omega) (by rw[q];omega);have:=tz (w:=w) (l:=[x]) (zs:=Ol (Mp .i64 0).cells (Qa w 1 0 3 - 1)) (by simp) (Qa w 1 0 3);exact⟨_,_,_,n,LC _,(ak w Lw).t (Lr _ _ Lw),this,kJ _ _ _ _⟩
 | some b=>
  have i:∀j v,(a.map (Mp .i64))[j]?=Lq v->w.cell? (b.add j)=Lq v:=λj v k=>by
   have c:j<a.length:=by simpa using(Md.1 k).1
   have⟨base,d,e,_,O⟩:=I.cell;cases e;have⟨V,o,F,_,_,_,Q⟩:=O (by intro e;rw[e] at c;simp at c);cases F;have L:=Q j c;rw[NO,LO c] at k;rw[LO c] at L;cases k;exact gX L
  have n:=run_append_grow (P:=Ya) w 29 y 3 H _ Tp.und29' s r b a.length a.length (a.map (Mp .i64)) (by rw[h];simp) i ⟨B,0,Lw⟩ 1 1 [Mp .i64 x] (by rw[h];rfl) f (by omega) (by omega) (growslice_fits (by omega) (by rw[q];omega));have:=tz (w:=w) (l:=a++[x]) (zs:=Ol (Mp .i64 0).cells (Qa w (a.length+1) a.length 3 - (a.length+1))) (by simp;omega) (Qa w (a.length+1) a.length 3);have e:(a.map (Mp .i64)).toArray++[Mp .i64 x].toArray=((a++[x]).map (Mp .i64)).toArray:=by simp
  rw[e] at n;rw[p] at this;exact⟨_,_,_,n,LC _,(ak w Lw).t (Lr _ _ Lw),this,kJ _ _ _ _⟩
def yr{d:LM NB}{o:NB}{a:ON}{w:Lt}{K:ON->Lt->Prop}{Q:SS->ON->Lt->Prop}{E:Prop}(f:MA o (Od d a.tmps)=LG)(s x:MS)(e:o.op=.call { callee:=.builtin .append,args:=#[s,x],argTypes:=#[29,29] }){nb:LU MN}{nc B:Ly}{now:Lx LJ}{y:LJ}(hs:a.eval s=.slice nb now.length now.length)(hx:a.eval x=.slice (Lq B) 1 1)(hN:ai 0 w.heap.size w (.slice nb now.length nc) now)(hy:w.cell? B=Lq (.int .i64 y))(hl:now.length<=1000)(h:∀g b c,w.heap.size<=g->w.gb c Lw->ai w.heap.size c.heap.size c (.slice (Lq ⟨g,0,Lw⟩) (now.length+1) b) (now++[y])->now.length+1<=b->K (a.put o.dst (.slice (Lq ⟨g,0,Lw⟩) (now.length+1) b)) c) :if MA o (Od d a.tmps)=LG then Oper.wp Ya o a w K Q else E:=by
 rw[if_pos f];have⟨g,b,c,i,n,l,k,j⟩:=Bh o.type hN hy hl;unfold Oper.wp OZ;simp only[e,resolve,invoke,builtin,NF,RO,NC,RQ,PS,Ra,hs,hx,i];exact h g b c n l k j
def Kg{n1 E Lv Gp:Ly}{lb:LU MN}{lc:Ly}{ws:Lx LJ}{fE:Nh}{dJ:LM LA}{I:Lx (Lx LJ)->(Ly->Prop)->Lt->Prop}(cb:Cb n1 ws fE dJ I)(k5:ws.length<=1000)(m:Ly)(ih:∀(b:Lx LJ) (a:Ly) (p:LU MN) (nc:Ly) (W:Lt) (G:Ly->Prop) (done:Lx (Lx LJ)),m+b.length<=ws.length->a<=1001->b.Sublist (ws.take a)->py n1 E Lv Gp lb lc ws fE dJ G W->nJ n1 G W (.slice p b.length nc) b->(b≠[]\/MU p b.length nc=.slice Lw 0 0)->b.length<=nc->FE ws done (cM ws m b a)->I done G W ->MH Ya 136 #[.slice p b.length nc,a,m,.pointer (Lq E),.pointer (Lq Lv),.pointer (Lq Gp)] W (GrA n1 I (cM ws m b a) done G W))(b:Lx LJ)(a:Ly)(p:LU MN)(nc:Ly)(W:Lt)(G:Ly->Prop)(done:Lx (Lx LJ))(l4:m+1+b.length<=ws.length)(a8:a<=1001)(l:b.Sublist (ws.take a))(hS:py n1 E Lv Gp lb lc ws fE dJ G W)(hN:nJ n1 G W (.slice p b.length nc) b)(a7:b≠[]\/MU p b.length nc=.slice Lw 0 0)(k9:b.length<=nc)(z:FE ws done (cM ws (m+1) b a))(h:I done G W) :MH Ya 136 #[.slice p b.length nc,a,.int .i64 ((m:LJ)+1),.pointer (Lq E),.pointer (Lq Lv),.pointer (Lq Gp)] W (GrA n1 I (cM ws (m+1) b a) done G W):=by
 have l5:((m:LJ)+1 == 0)=LH:=by
  rw[beq_eq_false_iff_ne];omega
 have⟨d6,HS,HN,HH,R,c8⟩:=sr ih hS hN h l z;clear z;have k6:IntKind.i64.wrap (m:LJ)=(m:LJ):=MI _ (by omega);clear ih hS hN h a7 l;go_enter Tp.x136,Xu;go_wp2;go_loopw [10] (λX wr=>∃i:Ly,X=.int .i64 i/\a<=i/\i<=1001/\∃w L,cM ws (m+1) b a=L++cM ws (m+1) b i/\I (done++L) w wr/\Bod n1 n1 G w W wr) (λX _=>(1002 - intOf X).toNat)
 case atStart=>exact⟨a,rfl,LC _,a8,G,[],rfl,by simpa using HH.out,eh (Mf _ _)⟩
 case round=>
  obtain⟨i,rfl,b0,l6,w,L,hL,O,k⟩:=hrel;have f:=Lu (HS.bod k);have c9:=Lu (HN.bod k);have⟨HL,u,T⟩:=bL hL O k;clear hL O k;have c1:wr.cell? Lv=Lq (.slice lb ws.length lc):=aa f.ls rfl;by_cases d:i<ws.length
  ·have e8:(i:LJ)<(ws.length:LJ):=by omega
   obtain⟨x,q⟩:∃x,ws[i]?=Lq x:=⟨_,LO d⟩;obtain⟨b1,m5,he,-,hc⟩:=f.out.li.1.cell;cases he;obtain⟨LB,lo,rfl,m4,m3,l9,P⟩:=hc (by intro e;rw[e] at d;simp at d);have U:=P i d;rw[q] at U;simp only[LQ] at U;have d0:wr.cell? Gp=Lq (.func (.func 136) #[] #[.pointer (Lq E),.pointer (Lq Lv),.pointer (Lq Gp)]):=aa f.gr rfl;have d1:=c1;have d2:=U;have k7:IntKind.i64.wrap ((i:LJ)+1)=((i+1:Ly):LJ):=by rw[MI _ (by omega)];rfl
   have a6:0<=(i:LJ):=by omega
   have k8:(b.length:LJ)<=(nc:LJ):=by omega
   have s:=Lu q;clear hc P U q;go_upto_region 6 with(fail);refine bn 17 (λv=>v.cell? Gp=Lq (.func (.func 136) #[] #[.pointer (Lq E),.pointer (Lq Lv),.pointer (Lq Gp)])/\v.cell? Lv=Lq (.slice (Lq ⟨LB,lo,Lw⟩) ws.length lc)/\v.cell? ⟨LB,lo+i,Lw⟩=Lq (.int .i64 x)) (by kernel_rfl) (by kernel_rfl) ⟨d0,d1,d2⟩ (λhHeld=>?_);simp only[LX,Mj,Ms,NA,Mn,MF,MG,MZ,Mu,Mk];refine tk 0 (h:=tk 1 (h:=tk 2 (h:=tk 3 (h:=tk 4 (h:=tk 5 (h:=tk 6 (h:=tk 7 (h:=tk 8 (h:=tk 9 (h:=tk 10 (h:=tk 13 (h:=tk 14 (h:=tk 15 (h:=tk 16 (h:=?_)))))))))))))));try go_frame
   refine rdc 11 λK M=>?_;go_simp;refine M.out _ _ (by first | exact V | exact hHeld | exact⟨(Lr _ _ Lw).cl hHeld.1,(Lr _ _ Lw).cl hHeld.2.1,(Lr _ _ Lw).cl hHeld.2.2⟩) (λhHeld=>?_);clear M K;try go_frame
   refine rdc 12 λK M=>?_;refine yr rfl (.tmp 29) (.tmp 34) rfl (nc:=nc) (B:=wr.heap.size) (y:=x) (by rfl) (by rfl) (((c9.1.kept ((ak wr Lw).trans (Lr wr.drew (.cells #[.int .i64 x] 3) Lw))).mono (Mw _) ((ak wr Lw).trans (Lr wr.drew (.cells #[.int .i64 x] 3) Lw)).size)) (gS wr.drew _ _ _) (by omega) (λg Q v q1 q2 q3 q5=>?_);have j:=Lu (((ak wr Lw).trans (Lr wr.drew (.cells #[.int .i64 x] 3) Lw)).trans q2);have⟨b9,c3,b8⟩:=bL q3 q1 q5;have V:=Mm (j.cl d0) (Mm (j.cl d1) (j.cl d2));clear q1 q2 q3 q5;refine M.out _ _ (by first | exact V | exact hHeld | exact⟨(Lr _ _ Lw).cl hHeld.1,(Lr _ _ Lw).cl hHeld.2.1,(Lr _ _ Lw).cl hHeld.2.2⟩) (λhHeld=>?_);clear M K;try go_frame
   refine⟨by kernel_rfl,?_⟩;simp only[MQ,Nu];clear hHeld V;have Z:n1<=wr.heap.size:=Wa (Nat.lt_of_le_of_lt f.ge.1 (Lz.1 f.en).1);have D:(wr.drew.alloc (.cells #[.int .i64 x] 3)).heap.size=wr.heap.size+1:=by rw[Mc];rfl
   have Y:wr.heap.size<=g:=by have h1:=c3.out;have h2:((wr.alloc (.cells #[.int .i64 x] 3)).drew).heap.size=wr.heap.size+1:=(by rw[World.size_drew,Mc]);omega
   have F:=f.out.bod (eh j);have N:=cb.hI _ _ _ _ u j;have H:nJ n1 w v (.slice (Lq ⟨g,0,Lw⟩) (b.length+1) Q) (b++[x]):=by
    refine⟨b9.mono (LN Z (Wa (by rw[<- Nat.add_one_le_iff];exact Py D.symm))) (LC _),λB o n c e _ hg=>?_⟩;cases e;have:=cb.hlt _ _ _ u _ hg;omega
   have r:=d6.out (b++[x]) (i+1) (Lq ⟨g,0,Lw⟩) Q v w (done++L) (by simp;omega) (by omega) (by
    rw[Np,s];exact List.Sublist.append (R.trans (List.take_sublist_take_left b0)) (by simp)) F (by simpa using H) (.inl (by simp)) (by simpa using b8.out) (by
    have⟨t,ht⟩:=c8.out;rw[HL,mo d,s] at ht;exact⟨_,by rw[ht];simp only[OE];rfl⟩) N
   rw[Na,SV] at r;have S:=Lu r;clear r H N F D Y;go_wp2_with (go_at_call 136;refine(S).mono ?_;rintro e w6 ⟨rfl,G6,b7,b6⟩);go_roundw
   case rel=>
    refine⟨i+1,by simp,by omega,by omega,G6,L++cM ws m (b++[x]) (i+1),?_,by rw[<- OE];exact b7,T.trans ((eh j).trans b6)⟩;rw[HL,mo d,s,OE];rfl
   case measure=>simp[intOf];omega
  ·have a6:¬ (i:LJ)<(ws.length:LJ):=by omega
   go_wp2;go_ret;exact⟨rfl,w,by rw[HL,tL (by omega),List.append_nil];exact u,T⟩
def Ig{n1 E Lv Gp:Ly}{lb:LU MN}{lc:Ly}{ws:Lx LJ}{fE:Nh}{dJ:LM LA}{I:Lx (Lx LJ)->(Ly->Prop)->Lt->Prop}(l:Cb n1 ws fE dJ I)(e:ws.length<=1000) :∀(m:Ly) (b:Lx LJ) (a:Ly) (d:LU MN) (c:Ly) (W:Lt) (G:Ly->Prop) (done:Lx (Lx LJ)),m+b.length<=ws.length->a<=1001->b.Sublist (ws.take a)->py n1 E Lv Gp lb lc ws fE dJ G W->nJ n1 G W (.slice d b.length c) b->(b≠[]\/MU d b.length c=.slice Lw 0 0)->b.length<=c->FE ws done (cM ws m b a)->I done G W ->MH Ya 136 #[.slice d b.length c,a,m,.pointer (Lq E),.pointer (Lq Lv),.pointer (Lq Gp)] W (GrA n1 I (cM ws m b a) done G W)
 | 0,b,a,d,c,W,G,done,_,_,k,j,i,h,_,f,g=>Kh l k j i h f g
 | m+1,b,a,d,c,W,G,done,p,n,k,j,i,h,f,o,g=>by
  have:=Kg l e m (Ig l e m) b a d c W G done p n k j i h f o g
  rwa [show((m:LJ)+1)=((m+1:Ly):LJ) by omega] at this
end
section
open Go.RowKit Go.Shelf
attribute [local go_sem] Oper.semAt_some
def lR{Y:Type}(f:Ly->Y)(k:Ly):Lx Y:=(Mr k).map f
def sJ{Y:Type}(f:Ly->Y)(k:Ly):lR f (k+1)=lR f k++[f k]:=by simp[lR,Qx]
def vD{Y:Type}(f:Ly->Y)(k:Ly):(lR f k).length=k:=by simp[lR]
def CE(a:Lx LJ):lR (λj=>a[j]?.getD 0) a.length=a:=by
 apply Wv
 ·simp[lR]
 ·intro i c b;simp[lR,b]
def AO(a:Lx LJ){k:Ly}(b:k<=a.length):lR (λj=>a[j]?.getD 0) k=a.take k:=by
 apply Wv
 ·simp[lR,b]
 ·intro i c d;have:i<a.length:=by simp[lR] at c;omega
  simp[lR,this]
def yh(F:Fence)(n:Ly)(P:F.fn 165)(u:F.round=Lw)(S:1<=n)(l Bs n₀ b c a A:Ly)(d:Lx LJ)(s:a*8<=140737488351232)(L:b<n₀)(J H:Lx LJ->Lt->Prop)(M:∀pre x W,J pre W->pre.length<a->YieldAt F (n - 1) Ya l #[.int .i64 x] W λe f =>(e=.returned (.bool LG)/\J (pre++[x]) f/\Below n₀ W f)\/(e=.returned (.bool LH)/\H (pre++[x]) f))(W:Lt)(O:W.cell? Bs=Lq (.slice (Lq ⟨b,c,Lw⟩) a A))(I:∀j,j<a->W.cell? ⟨b,c+j,Lw⟩=Lq (.int .i64 (d[j]?.getD 0)))(Q:J [] W) :CallsIn F n Ya 165 #[.func (.yield l) #[] #[],.pointer (Lq Bs)] W λe f=>(∃v,e=.returned v) /\((∃B,B=lR (λj=>d[j]?.getD 0) a/\J B f)\/(∃pre,(∃k,k<=a/\pre=lR (λj=>d[j]?.getD 0) k)/\H pre f)):=by
 refine Ud Tp.x165 rfl P ?_ u;simp only[Xv,Mt,LX,Mj,Ms,NA,MF,MG,MZ,OY,Mu,Mk]
 gi_wp2
 gi_loopw [7] (λi wr=>∃k:Ly,k<=a/\i=.int .i64 k/\J (lR (λj=>d[j]?.getD 0) k) wr/\Below n₀ W wr)
  (λi _=>a - (intOf i).toNat)
 case atStart=>exact⟨0,Mw _,rfl,Q,RH _ _⟩
 case round=>
  obtain⟨k,T,rfl,r,g⟩:=hrel;have y:k<a->wr.cell? ⟨b,c+k,Lw⟩=Lq (.int .i64 (d[k]?.getD 0)):=λh=>(g.cell (p:=⟨b,c+k,Lw⟩) L).trans (I k h);by_cases o:k<a
  ·have⟨U,C,t,G,R,N⟩:=M _ (d[k]?.getD 0) wr r (by rw[vD];exact o);have D:=y o
   gi_wp2
   refine N.mono ?_;rintro e V (⟨rfl,z,w⟩ | ⟨rfl,q⟩)
   ·gi_wp2
    go_roundw
    case rel=>exact⟨k+1,by omega,by simp,by rw[sJ];exact z,g.trans w⟩
    case measure=>simp[intOf];omega
   ·gi_wp2
    refine Ot (results_none rfl _ _ _) rfl ?_;exact⟨⟨_,rfl⟩,.inr ⟨_,⟨k+1,by omega,(sJ _ _).symm⟩,q⟩⟩
  ·obtain rfl:k=a:=by omega
   gi_wp2
   go_end0;exact⟨⟨_,rfl⟩,.inl ⟨_,rfl,r⟩⟩
def ug(F:Fence)(n:Ly)(f:F.fn 165)(a:F.round=Lw)(l Bs:Ly)(J:Lx LJ->Lt->Prop)(W:Lt)(c:LU MN)(k:Ly)(d:W.cell? Bs=Lq (.slice c 0 k))(g:J [] W) :CallsIn F n Ya 165 #[.func (.yield l) #[] #[],.pointer (Lq Bs)] W λe h=>(∃v,e=.returned v)/\J [] h:=by
 refine Ud Tp.x165 rfl f ?_ a;simp only[Xv,Mt,LX,Mj,Ms,NA,MF,MG,MZ,OY,Mu,Mk]
 gi_wp2
 gi_loopw [7] (λi wr=>i=.int .i64 0/\J [] wr) (λ_ _=>0)
 case atStart=>exact⟨rfl,g⟩
 case round=>
  obtain⟨rfl,b⟩:=hrel
  gi_wp2
  go_end0;exact⟨⟨_,rfl⟩,b⟩
def uf(F:Fence)(n:Ly)(A:F.fn 165)(f:F.round=Lw)(D:1<=n)(Bs n₀:Ly)(v:LA)(a:Lx LJ)(w:Lt)(s:Bs<w.heap.size)(hn₀:n₀<=w.heap.size)(I:w.cell? Bs=Lq v)(M:ai 0 n₀ w v a) :SeqStopsK F n Ya 165 #[.pointer (Lq Bs)] (λx:LJ=>#[Mp .i64 x]) (Below n₀) (λu=>u=a) (λpre=>pre <+: a) a.length w:=λl J P W z _ _ L C=>by
 have g:=(z.cell (p:=⟨Bs,0,Lw⟩) s).t I;obtain⟨base,i,rfl,G,r⟩:=M.cell;by_cases y:a=[]
 ·subst y;exact(ug F n A f l Bs J W base i g C).mono λe O ⟨q,c⟩=>⟨q,.inl ⟨_,rfl,c⟩⟩
 ·obtain⟨B,o,rfl,-,N,h,d⟩:=r y;have b:∀j,j<a.length->W.cell? ⟨B,o+j,Lw⟩=Lq (.int .i64 (a[j]?.getD 0)):=λj c=>(z.cell (p:=⟨B,o+j,Lw⟩) h).t (d j c);refine(yh F n A f D l Bs n₀ B o a.length i a (by omega) N J P L W g b C).mono ?_;rintro e O ⟨q,⟨u,rfl,c⟩ | ⟨pre,⟨k,H,rfl⟩,c⟩⟩
  ·exact⟨q,.inl ⟨_,CE a,c⟩⟩
  ·exact⟨q,.inr ⟨_,by rw[AO a H];exact List.take_prefix _ _,c⟩⟩
def vm(F:Fence)(n:Ly)(X:F.fn 199)(L:F.fn 165)(f:F.round=Lw)(hn:3<=n)(Bs:Ly)(t:LA)(i:Lx LJ)(w:Lt)(H:Bs<w.heap.size)(G:w.cell? Bs=Lq t)(I:ai 0 w.heap.size w t i) :CallsIn F n Ya 199 #[.slice Lw 0 0,.func (.func 165) #[] #[.pointer (Lq Bs)]] w λe N=>∃v,e=.returned v/\N.ownsRow w.heap.size 3 1 v i.length (i.map (Mp .i64))/\(v=.slice Lw 0 0↔i=[])/\Below w.heap.size w N:=by
 have Y:1<=n:=by omega
 have R:(i.length:LJ)<=1000000:=by obtain⟨_,_,_,h,_⟩:=I;exact h
 have⟨O,S,z,y,u⟩:=Pd Tp.info3p;refine RV Tp.x199 rfl X ?_ f;simp only[Tryz.ntmps199,Mt,LX,Mj,Ms,NA,MF,MG,MZ,OY,Mu,Mk]
 gi_wp2
 have Z:=Boxed.new w 29 (.slice Lw 0 0);have q:Below w.heap.size w (w.alloc (.cells #[.slice Lw 0 0] 29)):=(RH _ w).alloc (LC _) _;refine wpIn_rangeFunc_ownG f Y (gf:=165) (lb:=#[.pointer (Lq Bs)]) rfl L (enters_of Tp.x165 (by kernel_rfl) rfl)
  (uf F (n - 1) L f (by omega) Bs w.heap.size t i _ (by simp;omega) (by simp) ((q.cell (p:=⟨Bs,0,Lw⟩) H).trans G) (I.alloc _)) belowK_t (belowK_b (by simp)) (RH _ _) (λ_=>rfl)
  (λpre W=>(∃v,Boxed W w.heap.size 29 v/\W.ownsRow w.heap.size 3 1 v pre.length (pre.map (Mp .i64))/\(v=.slice Lw 0 0↔pre=[]))/\Below w.heap.size w W)
  (λ_ _ _=>PC)
  (OwnFrom.and (Own.from (holdsRow_own w.heap.size w.heap.size 29 3 1 (λpre=>pre.length) (λpre=>pre.map (Mp .i64)) (λpre v=>v=.slice Lw 0 0↔pre=[])) _) (ownFrom_below (LC _) (by simp)))
  (λ_ _ _ _ _ P _ _=>P)
  ⟨⟨_,Z,OF _ _ _ _,by simp⟩,q⟩
  (λx=>{ tmps:=#[.slice Lw 0 0,.func (.func 165) #[] #[.pointer (Lq Bs)],.pointer (Lq w.heap.size),LI,.slice Lw 0 0,.int .i64 x,.func (.func 165) #[] #[.pointer (Lq Bs)],.int .i64 x,LI,LI,LI,LI,LI],defers:=[] }) ?assign ?body ?done ?stop
 case assign=>
  intro l x W K o
  gi_wp2
  exact o
 case body=>
  rintro l pre x W ⟨⟨v,s,a,d⟩,r⟩ Q;have G:=s.cell
  gi_wp2_with (gi_at_builtin;refine wpListIn_append_own _ rfl _ _ 29 rfl w.heap.size 3 O (.int .i64 0) 1 8 Tp.und29' S z y u rfl (by decide) _ _ _ rfl (a.alloc _) ⟨W.heap.size,0,Lw⟩ 1 1 [.int .i64 x] rfl rfl (cell_one_new _ _ _) (by simp[OV]) (by simp[Qe];omega) (by omega) (by have:=r.size;simp;omega) ?_;intro v' w1 b g _;obtain⟨g',M,rfl⟩:=ownsRow_succ b;have⟨j,A,B,C,k⟩:=s.appended (by decide) a r.size (LC _) b g;have U:=j.cell;have T:=j.frozen)
  exact⟨C.from _,k,⟨_,A,by simpa using B,by simp⟩,r.trans k⟩
 case done=>
  rintro D ys W V rfl ⟨⟨v,s,a,d⟩,r⟩ o;have G:=s.cell
  gi_wp2
  refine⟨by simp,.inl ⟨_,_,rfl,RS o,?_⟩⟩;exact⟨_,Sv rfl _ _ _,v,rfl,ownsRow_putObj a _ o rfl,d,r.trans (belowK_b (w:=w) (LC _) W D _ _ (by simp at V;omega) o rfl rfl)⟩
 case stop=>
  rintro D c pre W _ _ h _;exact h.elim
def sG(Bs:Ly)(b:LA)(a:Lx LJ)(w:Lt)(c:Bs<w.heap.size)(f:w.cell? Bs=Lq b)(g:ai 0 w.heap.size w b a) :MH Ya 199 #[.slice Lw 0 0,.func (.func 165) #[] #[.pointer (Lq Bs)]] w λe d=>∃v,e=.returned v/\d.ownsRow w.heap.size 3 1 v a.length (a.map (Mp .i64))/\(v=.slice Lw 0 0↔a=[])/\Below w.heap.size w d :=
 (NM (n:=3)).1 (vm Fence.wide 3 trivial trivial rfl (by omega) Bs b a w c f g)
def iX{w a:Lt}(h:Below w.heap.size w a):w.gb a Lw:=⟨h.os,h.tape,h.output,h.size,λk b _=>h.block k b⟩
def Eb{n:Ly}{w:Lt}{v:LA}{l:Lx LJ}(h:w.ownsRow n 3 1 v l.length (l.map (Mp .i64)))(q:(l.length:LJ)<=1000000):∃base B c,v=.slice base l.length c/\n<=B/\lN base B w l/\(v=.slice Lw 0 0\/base≠Lw):=by
 obtain⟨s,⟨rfl,f⟩ | ⟨g,b,a,rfl,o,k,r,hm,p,j⟩⟩:=h
 ·exact⟨Lw,n,0,by rw[f],LC _,.inr (MT f),.inl rfl⟩
 ·refine⟨_,g,b,rfl,o,.inl ⟨rfl,a,k,λi d=>?_⟩,.inr (by simp)⟩;have e:(a.toList.take (l.length*1))[i]?=Lq (.int .i64 (l[i]?.getD 0)):=by
   rw[j];simp[LO d]
  rw[QZ] at e;simpa[d] using e
def lN.ints{base:LU MN}{B c n:Ly}{w:Lt}{L:Lx LJ}(h:lN base B w L)(d:n<=B)(a:(L.length:LJ)<=1000000):ai n w.heap.size w (.slice base L.length c) L:=by
 rcases h with⟨rfl,g,b,f⟩ | rfl
 ·exact⟨_,c,rfl,a,λ_=>⟨B,0,g,(0,0),rfl,d,(Lz.1 b).1,b,λi e=>by rw[Mn];exact f i e⟩⟩
 ·exact⟨base,c,rfl,a,λh=>absurd rfl h⟩
def xO(Bs:Ly)(d:LA)(a:Lx LJ)(w:Lt)(f:Bs<w.heap.size)(h:w.cell? Bs=Lq d)(j:ai 0 w.heap.size w d a) :MH Ya 163 #[.func (.func 165) #[] #[.pointer (Lq Bs)]] w λe g=>∃v,e=.returned v/\g.ownsRow w.heap.size 3 1 v a.length (a.map (Mp .i64))/\(v=.slice Lw 0 0↔a=[])/\w.gb g Lw:=by
 go_enter Tp.x163,Tryz.ntmps163;go_wp2_with (go_at_call 199;refine(sG Bs d a w f h j).mono ?_;rintro e k ⟨v,rfl,b,c,i⟩);go_ret;exact⟨_,rfl,b,c,iX i⟩
def yL(Bs:Ly)(k:LA)(a:Lx LJ)(w:Lt)(n:Bs<w.heap.size)(x:w.cell? Bs=Lq k)(y:ai 0 w.heap.size w k a)(o:a.length<=12) :MH Ya 134 #[.func (.func 165) #[] #[.pointer (Lq Bs)]] w λe p=>∃v,e=.returned v/\ai w.heap.size p.heap.size p v (cI a.length a)/\(v=.slice Lw 0 0↔cI a.length a=[])/\w.gb p Lw:=by
 have l:(a.length:LJ)<=1000000:=by omega
 go_enter Tp.x134,Tryz.ntmps134;go_wp2_with (first
  | (go_at_call 163;refine(xO Bs k a w n x y).mono ?_;rintro e D ⟨v,rfl,b,d,t⟩;obtain⟨base,B,c,rfl,u,f,-⟩:=Eb b l;have q:=Lu f;have z:=Lu d;have A:=Lu t;clear b f d t)
  | (go_at_call 164;refine(JN base B c a _ q o).mono ?_;rintro e C ⟨rfl,i,g⟩;have s:=Lu i;have r:=Lu g;clear i g))
 go_ret;have h:=lN.ints (c:=c) r u (by rw[jH];omega);rw[jH] at h;refine⟨_,rfl,h,z.trans ⟨λe=>by rw[e];rfl,λe=>?_⟩,A.andThen s (λj e=>by cases e;exact .inl u)⟩;have:=jH a.length a;rw[e] at this;exact MT this.symm
def nH(l b:Lx LJ):Prop:=∀(Bs:Ly) (sv:LA) (w:Lt),Bs<w.heap.size->w.cell? Bs=Lq sv->ai 0 w.heap.size w sv l ->
 MH Ya 134 #[.func (.func 165) #[] #[.pointer (Lq Bs)]] w λe a=>∃v,e=.returned v/\ai w.heap.size a.heap.size a v b/\(v=.slice Lw 0 0↔b=[])/\w.gb a Lw
def Bb{l:Lx LJ}(a:l.length<=12):nH l (cI l.length l):=λBs b w e d c=>yL Bs b l w e d c a
def Ba{l:Lx LJ}(a:l.length<=12)(b:∀i,i+1<l.length->l[i]?.getD 0<=l[i+1]?.getD 0):nH l l:=by
 have:=Bb a
 rwa [rj b _ (LC _)] at this
end
section
open Go.RowKit
def jV{A C E:Lt}{r:Ly}(h:A.gb C Lw)(k:C.gb E (Lq r))(a:A.heap.size<=r):A.gb E Lw:=h.andThen k (λj e=>by cases e;exact .inl a)
def JL{ll f:Lx LJ}{b:LU MN}{c:Ly}{Q:Nh}{dJ:LM LA}{I:Lx (Lx LJ)->(Ly->Prop)->Lt->Prop}{W:Lt}(cb:Cb W.heap.size f Q dJ I)(d6:f.length<=1000)(hS:nH ll f)(hI:ai 0 W.heap.size W (.slice b ll.length c) ll){G:Ly->Prop}(h0:I [] G W) :MH Ya 82 #[.slice b ll.length c,.func (.func Q) #[] dJ] W λe W'=>e=.returned (.bool LH)/\∃G',I (cy f 0) G' W':=by
 obtain⟨d,g⟩:∃d,d=W.heap.size:=⟨_,rfl⟩;obtain⟨p,l⟩:∃p,p=(W.alloc (.cells #[.slice b ll.length c] 29)).alloc (.cells #[.func (.func Q) #[] dJ] 51):=⟨_,rfl⟩;have s:W.gb p Lw:=by rw[l];exact(Lr _ _ Lw).trans (Lr _ _ Lw)
 have l1:p.heap[d]?=Lq (.cells #[.slice b ll.length c] 29 (0,0)):=by rw[l,g];exact aD (LS W _)
 have e1:p.heap[d+1]?=Lq (.cells #[.func (.func Q) #[] dJ] 51 (0,0)):=by
  rw[l];have:=LS (W.alloc (.cells #[.slice b ll.length c] 29)) (.cells #[.func (.func Q) #[] dJ] 51);rw[Mc,<- g] at this;exact this
 have U:p.heap.size=d+2:=by rw[l,Mc,Mc,g]
 have c1:p.cell? d=Lq (.slice b ll.length c):=aa l1 rfl;have z1:=aB (o:=0) l1;have V:d<p.heap.size:=by omega
 have k0:=Lu ((hI.kept s).mono (LC _) s.size);have⟨g5,A,p9,k6,g8,k8,HH⟩:=BP l g U s l1 e1 h0;clear l g U s l1 e1 hI h0;go_enter Tp.x82,Tryz.ntmps82;go_upto_region 1 with(fail);rw[<- A,<- g5];go_upto_region 2 with(first
  | (go_at_call 135;refine(lQ _ _ _ _).mono ?_;rintro e w2 ⟨rfl,rfl⟩)
  | (go_at_call 134;refine(hS p.heap.size (.slice b ll.length c) _ (by simp) (by rw[gS];rfl) ((k0.alloc _).mono (LC _) (by simp))).mono ?_;rintro e w2 ⟨v,rfl,M,D,r⟩;obtain⟨T,S,rfl,-,-⟩:=M.cell;have c2:=(((Lr p (.cells #[.slice b ll.length c] 29) Lw).trans r).cl c1);have z2:=(((Lr p (.cells #[.slice b ll.length c] 29) Lw).trans r).frozen_far _ V (by simp)).trans z1;have h9:=Lu M;have P:=Lu ((Lr p (.cells #[.slice b ll.length c] 29) Lw).trans r);have q0:=Lu D;clear M D r))
 obtain⟨O,u⟩:∃O,O=w2.setCell d (.slice T f.length S):=⟨_,rfl⟩;rw[<- u];have i:=an w2 d 0 (.slice T f.length S);rw[<- u] at i;have l4:O.heap[d]?=Lq (.cells #[.slice T f.length S] 29 (0,0)):=by rw[u,ar (bk P g8)];rfl
 have e4:=blk (X:=d+1) i (by simp) (bk P k8);have i4:=(h9.kept i (λR e=>by cases e;left;rw[Mc];omega)).mono (show W.heap.size<=_ by rw[Mc];have:=A.out;omega) i.size;have g4:W.gb O Lw:=jV (k6.trans P) i (by rw[A];exact LC _);have⟨g7,k7,b7,b8⟩:=dD l4 e4 i4 g4;clear u i l4 e4 i4 g4 c1 z1 c2 z2;have n3:∀(a:MN) (fn:Fn) (x y:LM LA) (m:Mode) (w:Lt),(store a (.func fn x y) m).run Ya w=stored Ya w a (.func fn x y) m:=λa fn x y m w=>run_store _ w a _ m rfl;go_upto_region 4 with(fail);obtain⟨C,z⟩:∃C,C=O.heap.size:=⟨_,rfl⟩;obtain⟨N,t⟩:∃N,N=O.alloc (.cells #[.func (.func 136) #[] #[.pointer (Lq (d+1:Ly)),.pointer (Lq d),.pointer (Lq C)]] 151):=⟨_,rfl⟩;rw[<- z,<- t];have j:O.gb N Lw:=by rw[t];exact Lr _ _ Lw
 have p5:N.heap[C]?=Lq (.cells #[.func (.func 136) #[] #[.pointer (Lq (d+1:Ly)),.pointer (Lq d),.pointer (Lq C)]] 151 (0,0)):=by rw[t,z];exact LS _ _
 have q:∀k,W.heap.size<=k->¬ G k:=λk hk h=>by have:=cb.hlt _ _ _ HH k h;omega
 have g:=A.out;have a8:W.heap.size<=C:=by rw[z];exact b8.size
 have H:py W.heap.size (d+1) d C T S f Q dJ G N:=by
  refine⟨bk j k7,bk j g7,⟨(b7.kept j).mono (LC _) j.size,λB o n c' e d7 hg=>?_⟩,p5,⟨by omega,by omega,a8⟩,q _ (by omega),q _ (by omega),q _ a8⟩;have⟨base,p4,e',hl,hr⟩:=b7.out;cases e';have⟨B',o',cs,fr,e1,e2,e3,e4,e5⟩:=hr d7;cases e;cases e1;exact q _ e2 hg
 have a7:=cb.hI _ _ _ _ HH (b8.trans j);have⟨g6,h8⟩:=aS H a7;have m9:IntKind.i64.wrap ((f.length:LJ)+1)=((f.length+1:Ly):LJ):=by rw[MI _ (by omega)];rfl
 have cL:N.cell? d=Lq (.slice T f.length S):=aa H.ls rfl;clear H a7 p5 j t z q g;go_wp2;go_loopw [14] (λiv wr=>∃k:Ly,iv=.int .i64 k/\k<=f.length+1/\∃Gk L,cy f 0=L++cy f k/\I L Gk wr/\Bod W.heap.size W.heap.size G Gk N wr) (λiv _=>(f.length+1 - intOf iv).toNat)
 case atStart=>exact⟨0,rfl,by omega,G,[],rfl,h8,eh (Mf _ _)⟩
 case round=>
  obtain⟨k,rfl,hk,Gk,L,hL,a6,F⟩:=hrel;have b0:=Lu (g6.bod F);have⟨HL,b6,k9⟩:=bL hL a6 F;clear hL a6 F cL;have c1:wr.cell? C=Lq (.func (.func 136) #[] #[.pointer (Lq (d+1:Ly)),.pointer (Lq d),.pointer (Lq C)]):=aa b0.gr rfl;by_cases Y:k<f.length+1
  ·have l9:(k:LJ)<(f.length:LJ)+1:=by omega
   have n2:IntKind.i64.wrap ((k:LJ)+1)=((k+1:Ly):LJ):=by rw[MI _ (by omega)];rfl
   have Z:=Ig cb d6 k [] 0 Lw 0 wr Gk L (by simp;omega) (by omega) (by simp) b0 ⟨ai.nil _ _ _,λB o n c e=>by cases e⟩ (.inr rfl) (by simp) ⟨_,by rw[HL,nP Y]⟩ b6;have k5:=Lu Z;clear Z;go_wp2_with (go_at_call 136;refine(k5).mono ?_;rintro e w6 ⟨rfl,G6,d9,d8⟩);go_roundw
   case rel=>exact⟨k+1,by simp,by omega,G6,L++cM f k [] 0,by rw[HL,nP Y,OE],d9,k9.trans d8⟩
   case measure=>simp[intOf];omega
  ·obtain rfl:k=f.length+1:=by omega
   go_wp2;go_ret;exact⟨rfl,Gk,by rw[HL,vS (LC _),List.append_nil];exact b6⟩
end
section
open Go.RowKit
def rB(x b:Lx LJ):MC:=decide (bC x b<0)
def tQ(g i f h:Ly)(d c:LA)(a b:Lx LJ)(w:Lt)(l:ai g i w d a)(k:ai f h w c b) :MH Ya 99 #[d,c] w λe j=>e=.returned (.bool (rB a b))/\w=j:=pg g i f h d c a b w l k
def Kw(L:Ly)(s:MC)(d c:LA)(a x:Lx LJ)(w b:Lt):Prop :=
 w.gb b (Lq L)/\b.heap[L]?=Lq (.cells #[.func (.func 99) #[] #[],if s=LG/\rB x a=LH then d else c,.bool LG] 108 (0,0))
def AQ(L:Ly)(s:MC)(k g:LA)(a x:Lx LJ)(w:Lt)(c:w.heap[L]?=Lq (.cells #[.func (.func 99) #[] #[],k,.bool s] 108 (0,0)))(j:ai 0 w.heap.size w k a)(i:ai 0 w.heap.size w g x) :MH Ya 103 #[.pointer (Lq L),g] w λe q=>e=.returned (.tuple #[])/\Kw L s k g a x w q:=by
 obtain⟨z,y,rfl,-,-⟩:=j.cell;obtain⟨f,d,rfl,-,-⟩:=i.cell;have v:w.cell? L=Lq (.func (.func 99) #[] #[]):=aa c rfl;have u:w.cell? ⟨L,1,Lw⟩=Lq (.slice z a.length y):=aa c rfl;have r:w.cell? ⟨L,2,Lw⟩=Lq (.bool s):=aa c rfl;have B:w.frozen? ⟨L,1,Lw⟩=LH:=aB c;have A:w.frozen? ⟨L,2,Lw⟩=LH:=aB c;have⟨l,o,n⟩:=bL c j i;have C:=Lu (Mm v (Mm u r));clear c j i;go_enter Tp.x103,Xt;cases s with
 | false=>
  go_wp2_with (fail);go_quiet (fail);go_wp2;go_end0;refine⟨rfl,((ay _ _ _).t (an _ _ _ _)).t (an _ _ _ _),?_⟩;rw[if_neg (by simp ),ar (show((w.drewN nq).setCell ⟨L,1,Lw⟩ (.slice f x.length d)).heap[L]?=Lq (.cells #[.func (.func 99) #[] #[],.slice f x.length d,.bool LH] 108 (0,0)) by rw[ar (show(w.drewN nq).heap[L]?=_ from l)];rfl)];rfl
 | true=>
  cases hl:rB x a with
  | true=>
   have b:=Lu hl;clear hl;go_wp2_with (fail);go_quiet (first | (go_at_call 99;refine Ov ((tQ 0 w.heap.size 0 w.heap.size _ _ x a _ (n.kept (ay _ _ Lw)) (o.kept (ay _ _ Lw))).mono (λe p h=>⟨by rw[h.1,b],h.2.symm⟩))));go_wp2;go_end0;refine⟨rfl,((ay _ _ _).t (an _ _ _ _)).t (an _ _ _ _),?_⟩;rw[if_neg (by simp[b.out]),ar (show((w.drewN nq).setCell ⟨L,1,Lw⟩ (.slice f x.length d)).heap[L]?=Lq (.cells #[.func (.func 99) #[] #[],.slice f x.length d,.bool LG] 108 (0,0)) by rw[ar (show(w.drewN nq).heap[L]?=_ from l)];rfl)];rfl
  | false=>
   have b:=Lu hl;clear hl;go_wp2_with (fail);go_quiet (first | (go_at_call 99;refine Ov ((tQ 0 w.heap.size 0 w.heap.size _ _ x a _ (n.kept (ay _ _ Lw)) (o.kept (ay _ _ Lw))).mono (λe p h=>⟨by rw[h.1,b],h.2.symm⟩))));go_wp2;go_end0;refine⟨rfl,(ay _ _ _),?_⟩;rw[if_pos ⟨rfl,b⟩];exact l
def rm(l:Lx LJ)(x:LJ):LJ:=if x∈l then((l.takeWhile λy=>y != x).length:LJ) else -1
def JJ{l:Lx LJ}{x:LJ}{k:Ly}(h:l[k]?=Lq x)(b:∀i,i<k->l[i]?≠Lq x):(l.takeWhile λy=>y != x).length=k:=by
 induction l generalizing k with
 | nil=>simp at h
 | cons a t c=>
  cases k with
  | zero=>simp at h;subst h;simp
  | succ k=>
   have d:a≠x:=λe=>b 0 (by omega) (by simp[e]);rw[RI (by simpa using d),LX,c (by simpa using h) (λi f e=>b (i+1) (by omega) (by simpa using e))]
def Ex(b:LU MN)(c:Ly)(l:Lx LJ)(x:LJ)(w:Lt)(F:(l.length:LJ)<=1000000)(A:l≠[]->∃B o,b=Lq ⟨B,o,Lw⟩/\∀i,i<l.length->w.cell? ⟨B,o+i,Lw⟩=Lq (.int .i64 (l[i]?.getD 0))):MH Ya 147 #[.slice b l.length c,x] w λe C=>e=.returned (.int .i64 (rm l x))/\w=C:=by
 have G:=Lu A;clear A;go_enter Tp.x147,Tryz.ntmps147;go_wp2;go_loopw [8] (λq wr=>∃k:Ly,q=.int .i64 k/\k<=l.length/\(∀i,i<k->l[i]?≠Lq x)/\w=wr) (λq _=>(l.length - intOf q).toNat)
 case atStart=>exact⟨0,rfl,by omega,λi p=>by omega,rfl⟩
 case round=>
  obtain⟨k,rfl,H,j,rfl⟩:=hrel;have f:=Lu j;clear j;by_cases d:k<l.length
  ·obtain⟨B,o,rfl,n⟩:=G.out (by intro e;rw[e] at d;simp at d);obtain⟨y,r⟩:∃y,l[k]?=Lq y:=⟨_,LO d⟩;have v:=n k d;rw[r] at v;simp only[LQ] at v;have z:(k:LJ)<(l.length:LJ):=by omega
   have s:=Lu r;clear n r;by_cases a:x=y
   ·subst a;have g:rm l x=(k:LJ):=by
     unfold rm;rw[if_pos (Mh s),JJ s f]
    have u:=Lu g;clear g;go_wp2;go_ret;exact⟨by rw[u];rfl,by first | rfl | trivial⟩
   ·have D:(x == y)=LH:=by simpa using a
    have t:=Lu a;clear a;go_wp2;go_roundw
    case rel=>
     refine⟨k+1,by simp,by omega,λi p e=>?_,by first | rfl | trivial⟩;by_cases h:i=k
     ·subst h;rw[s] at e;cases e;exact t rfl
     ·exact f i (by omega) e
    case measure=>simp[intOf];omega
  ·obtain rfl:k=l.length:=by omega
   have g:rm l x=-1:=by
    unfold rm;rw[if_neg];intro hm;have⟨i,p⟩:=Tt hm;exact f i (Md.1 p).1 p
   have u:=Lu g;clear g;go_wp2;go_ret;exact⟨by rw[u];rfl,by first | rfl | trivial⟩
attribute [local go_sem] eq_nil uU
def Fb(B o f:Ly)(H:LZ)(z:LM LA)(N:Ly × Ly)(l:Lx LJ)(w:Lt)(y:w.heap[B]?=Lq (.cells z H N))(v:∀i,i<l.length->z[o+i]?=Lq (.int .i64 (l[i]?.getD 0)))(I:l.length<=1000) :MH Ya 84 #[.slice (Lq ⟨B,o,Lw⟩) l.length f] w λe r=>∃s,e=.returned s/\w.gb r Lw/\ai w.heap.size r.heap.size r s l:=by
 have⟨D,q,k,h,g⟩:=Pd Tp.info3p;by_cases F:l=[]
 ·subst F;show MH Ya 84 #[.slice (Lq ⟨B,o,Lw⟩) 0 f] w _;clear y v I;go_enter Tp.x84,Uy;go_wp2_with (at_builtin;(refine wpList_append_own _ rfl _ _ 29 rfl w.heap.size 3 D _ 1 8 Tp.und29' q k h g rfl (by decide) (.slice (Lq w.heap.size) 0 0) 0 [] rfl ⟨rfl,.inr ⟨_,0,#[],rfl,LC _,LS _ _,LC _,by decide,rfl,rfl⟩⟩ ⟨B,o,Lw⟩ 0 f [] rfl rfl (by intro j u b;simp at b) (by intro u b;simp at b) (by decide) (by omega) (by simp) ?_);intro s Q d a _;have A:=Lu d;have C:=Lu a;clear d a);go_ret;refine⟨_,rfl,(Lr _ _ Lw).andThen C (λj e=>.inl ?_),rl (n:=0) (by simpa using A.out) (by simp) (LC _)⟩;simp[MP] at e;omega
 have p:0<l.length:=Pr.2 F;have O:=Lu (show ∀j u,(l.map (Mp .i64))[j]?=Lq u->z[o+j]?=Lq u from λj u b=>by
  rw[NO] at b;cases hj:l[j]? with
  | none=>rw[hj] at b;cases b
  | some x=>
   rw[hj] at b;cases b;have t:=(Md.1 hj).1;have:=v j t;rw[hj] at this;exact this)
 have P:=Lu y;clear v y;go_enter Tp.x84,Uy;go_wp2_with (at_builtin;(refine TP _ (by rfl) _ _ _ (by rfl) w.heap.size 3 D _ 1 8 Tp.und29' q k h g rfl (by omega) (.slice (Lq w.heap.size) 0 0) 0 [] (by rfl) ⟨by simp,.inr ⟨w.heap.size,0,#[],rfl,by omega,LS w _,by omega,by unfold Qe;omega,by simp,by simp⟩⟩ ⟨B,o,Lw⟩ l.length f (l.map (Mp .i64)) (by rfl) (by simp) (λj u b=>gX (aa (aD P) (O j u b))) (by intro u b;simp at b;obtain⟨x,_,rfl⟩:=b;rfl) p (by unfold Qe;omega) (by omega) (by simp) (w.heap.size+1) (by simp) ?_);intro S G R c a M L;have C:=Lu a;have A:=Lu c;clear a c);go_ret;refine⟨_,rfl,(Lr _ _ Lw).andThen C (λj e=>.inl ?_),rl (n:=0+l.length) (by simpa using A.out) (by omega) (LC _)⟩;simp[MP] at e;omega
def bP(s:Lx LJ):Lx LJ:=s.takeWhile λy=>y != -1
def BK{s:Lx LJ}(h:s.length=5):∃a b c d e,s=[a,b,c,d,e]:=by
 rcases s with _ | ⟨k,_ | ⟨j,_ | ⟨i,_ | ⟨g,_ | ⟨f,_ | ⟨l,t⟩⟩⟩⟩⟩⟩<;>simp at h;exact⟨k,j,i,g,f,rfl⟩
def zR(s:Lx LJ)(p:LJ->MC):s.take (s.takeWhile p).length=s.takeWhile p:=by
 induction s with
 | nil=>rfl
 | cons a t b=>
  by_cases h:p a=LG
  ·rw[RI h,LX,List.take_succ_cons,b]
  ·rw[List.takeWhile_cons_of_neg h];rfl
def sL(s:Lx LJ)(p:LJ->MC):(s.takeWhile p).length<=s.length:=by
 rw[<- zR s p,OX];omega
def Iu{s:Lx LJ}{x:LJ}(h:x∉s):s.takeWhile (λy=>y != x)=s:=by
 induction s with
 | nil=>rfl
 | cons a t b=>
  rw[RI (by simp at h ⊢;exact λe=>h.1 e.symm),b (by simp at h;exact h.2)]
def Em(s:Lx LJ)(G:s.length=5)(w:Lt):MH Ya 113 #[A5 s] w λe b=>∃v,e=.returned v/\w.gb b Lw/\ai w.heap.size b.heap.size b v (bP s):=by
 obtain⟨j,q⟩:∃j,j=w.heap.size:=⟨_,rfl⟩;obtain⟨f,c⟩:∃f,f=w.alloc (.cells (s.map (Mp .i64)).toArray 118):=⟨_,rfl⟩;have A:w.gb f Lw:=by rw[c];exact Lr _ _ Lw
 have o:f.heap[j]?=Lq (.cells (s.map (Mp .i64)).toArray 118 (0,0)):=by rw[c,q];exact LS _ _
 have l:∀i,i<s.length->(s.map (Mp .i64)).toArray[i]?=Lq (.int .i64 (s[i]?.getD 0)):=λi u=>by simp[u]
 have z:∀a,f.gb a Lw->MH Ya 147 #[.slice (Lq j) 5 5,.int .i64 (-1)] a λe b=>e=.returned (.int .i64 (rm s (-1)))/\a=b:=λa h=>by
  have:=Ex (Lq ⟨j,0,Lw⟩) 5 s (-1) a (by omega) (λ_=>⟨j,0,rfl,λi u=>aa (bk h o) (by rw[Mn];exact l i u)⟩)
  rwa [G] at this
 obtain⟨n,x⟩:∃n,n=(bP s).length:=⟨_,rfl⟩;have S:n<=5:=by rw[x];have:=sL s (λy=>y != -1);unfold bP;omega
 have B:∀a,f.gb a Lw->MH Ya 84 #[.slice (Lq j) n 5] a λe b=>∃H,e=.returned H/\a.gb b Lw/\ai a.heap.size b.heap.size b H (bP s):=λa h=>by
  rw[x];refine Fb j 0 5 118 _ (0,0) (bP s) a (bk h o) (λi u=>?_) (by omega);rw[Mn,l i (by omega)];unfold bP;rw[<- zR s (λy=>y != -1),Oi (by unfold bP at u;exact u)]
 have g:(rm s (-1)=(n:LJ)/\(-1:LJ)∈s)\/(rm s (-1)=-1/\n=5):=by
  by_cases hm:(-1:LJ)∈s
  ·left;refine⟨?_,hm⟩;unfold rm;rw[if_pos hm,x];rfl
  ·right;refine⟨by unfold rm;rw[if_neg hm],?_⟩;rw[x];unfold bP;rw[Iu hm,G]
 have⟨r,D,d,C,F⟩:=oC z B A c q;clear z B A o c q l x;generalize rm s (-1)=ix at g r;have L:A5 s=.agg (s.map (Mp .i64)).toArray:=rfl;rw[L];clear L;obtain⟨Q,P,O,N,M,rfl⟩:=BK G;rcases g with⟨rfl,-⟩ | ⟨rfl,rfl⟩
 ·go_enter Tp.x113,Xw;go_upto_region 1 with(fail);rw[<- F,show w.alloc (.cells #[Q,P,O,N,M] 118)=f from C.symm];have T:(0:LJ)<=(n:LJ):=by omega
  have I:(n:LJ)<=5:=by omega
  go_wp2_with (first
   | (go_at_call 147;refine(r _ (Mf _ _)).mono ?_;rintro e a ⟨rfl,rfl⟩)
   | (go_at_call 84;refine(D _ (Mf _ _)).mono ?_;rintro e R ⟨v,rfl,k,p⟩))
  go_ret;exact⟨_,rfl,d.t k,p.mono d.size (LC _)⟩
 ·go_enter Tp.x113,Xw;go_upto_region 1 with(fail);rw[<- F,show w.alloc (.cells #[Q,P,O,N,M] 118)=f from C.symm];go_wp2_with (first
   | (go_at_call 147;refine(r _ (Mf _ _)).mono ?_;rintro e a ⟨rfl,rfl⟩)
   | (go_at_call 84;refine(D _ (Mf _ _)).mono ?_;rintro e R ⟨v,rfl,k,p⟩))
  go_ret;exact⟨_,rfl,d.t k,p.mono d.size (LC _)⟩
def cm(l:Lx LJ):Lx LJ:=l++Xe (5 - l.length) (-1)
def lU{l:Lx LJ}(h:l.length<=5):(cm l).length=5:=by simp[cm];omega
def oO(lo hi:Ly)(v:LA)(l:Lx LJ)(w:Lt)(hI:ai lo hi w v l)(hl:l.length<=5):MH Ya 112 #[v] w λe w'=>e=.returned (A5 (cm l))/\w.gb w' Lw:=by
 obtain⟨b,c,rfl,d9,hc⟩:=hI.cell;have HC:=Lu hc;have F:(Ya.info? 3).map (·.size)=Lq 1:=by kernel_rfl
 obtain⟨R,O⟩:∃R,R=w.heap.size:=⟨_,rfl⟩;clear hc hI;go_enter Tp.x112,Tryz.ntmps112;go_upto_region 2 with(fail);obtain⟨r,n⟩:∃r,r=w.alloc (.cells #[.int .i64 0,.int .i64 0,.int .i64 0,.int .i64 0,.int .i64 0] 118):=⟨_,rfl⟩;obtain⟨g,i⟩:∃g,g=r.alloc (.cells #[.int .i64 (-1),.int .i64 (-1),.int .i64 (-1),.int .i64 (-1),.int .i64 (-1)] 118):=⟨_,rfl⟩;rw[<- O,show(w.alloc (.cells #[.int .i64 0,.int .i64 0,.int .i64 0,.int .i64 0,.int .i64 0] 118)).alloc (.cells #[.int .i64 (-1),.int .i64 (-1),.int .i64 (-1),.int .i64 (-1),.int .i64 (-1)] 118)=g by rw[i,n]];have y:r.heap.size=R+1:=by rw[n,Mc,O]
 have G:g.heap.size=R+2:=by rw[i,Mc,y]
 have M:w.gb r Lw:=by rw[n];exact Lr _ _ Lw
 have z:r.gb g Lw:=by rw[i];exact Lr _ _ Lw
 have I:r.heap[R]?=Lq (.cells #[.int .i64 0,.int .i64 0,.int .i64 0,.int .i64 0,.int .i64 0] 118 (0,0)):=by rw[n,O];exact LS _ _
 have N:g.heap[R+1]?=Lq (.cells ([.int .i64 (-1),.int .i64 (-1),.int .i64 (-1),.int .i64 (-1),.int .i64 (-1)]:Lx LA).toArray 118 (0,0)):=by rw[i,<- y];exact LS _ _
 have H:=bk z I;have⟨C,Q⟩:=aS N H;have f:=Lu (M.t z);have⟨e9,HR⟩:=aS G O;clear n i y M z I N H G O;have T:=Q.out;obtain⟨D,e7,d,p⟩:∃D,(TX #[29,29] 3 #[.slice (Lq (R+1:Ly)) 5 5,.slice b l.length c]).run Ya g=.ok (goInt l.length) D/\D.heap[R+1]?=Lq (.cells ((cm l).map (Mp .i64)).toArray 118 (0,0))/\Below (R+1) g D:=by
  by_cases h0:l=[]
  ·subst h0;exact⟨g,run_copy_none (P:=Ya) g 29 29 3 3 _ _ 5 5 0 c Tp.und29' F rfl,by rw[C];rfl,RH _ _⟩
  ·obtain⟨B,o,rfl,-,e8,-,A⟩:=HC.out h0;have Z:=run_copy_row (P:=Ya) g 29 29 3 3 (R+1) 0 5 5 ⟨B,o,Lw⟩ l.length c _ 118 (l.map (Mp .i64)) Tp.und29' F C (by rw[On];show l.length=min l.length 5;omega) (λj v L=>by
    rw[NO] at L;cases hx:l[j]? with
    | none=>rw[hx] at L;cases L
    | some x=>
     rw[hx] at L;cases L;have h1:=A j (Md.1 hx).1;rw[hx] at h1;exact gX (f.cl h1)) (by simp;omega) (by intro u Y;simp at Y;obtain⟨x,_,rfl⟩:=Y;rfl)
   rw[On] at Z;refine⟨_,Z,?_,below_setRow (RH _ _) (LC _) _⟩;rw[setRow_heap g (R+1) _ _ 118 _ C];unfold cm;have:∀k,k<=5->([.int .i64 (-1),.int .i64 (-1),.int .i64 (-1),.int .i64 (-1),.int .i64 (-1)]:Lx LA).drop k=(Xe (5 - k) (-1)).map (Mp .i64):=by
    intro k hk;obtain rfl | rfl | rfl | rfl | rfl | rfl:k=0\/k=1\/k=2\/k=3\/k=4\/k=5:=by omega
    all_goals rfl
   simp[this _ hl]
 have⟨a0,a1,a2,a3,a4,W⟩:=BK (lU hl);rw[W] at d;have E5:=Lu W;have a:=(p.block R (by omega)).t Q;have c0:=aa d (o:=0) rfl;have c1:=aa d (o:=1) rfl;have c2:=aa d (o:=2) rfl;have c3:=aa d (o:=3) rfl;have c4:=aa d (o:=4) rfl;have d0:=aa a (o:=0) rfl;have d1:=aa a (o:=1) rfl;have d2:=aa a (o:=2) rfl;have d3:=aa a (o:=3) rfl;have d4:=aa a (o:=4) rfl;have z0:=aB a (o:=0);have z1:=aB a (o:=1);have z2:=aB a (o:=2);have z3:=aB a (o:=3);have z4:=aB a (o:=4);have⟨X,q⟩:=aS a p;clear a p W T;go_wp2;obtain⟨S,s⟩:∃S,S=((((D.setCell R (.int .i64 a0)).setCell ⟨R,1,Lw⟩ (.int .i64 a1)).setCell ⟨R,2,Lw⟩ (.int .i64 a2)).setCell ⟨R,3,Lw⟩ (.int .i64 a3)).setCell ⟨R,4,Lw⟩ (.int .i64 a4):=⟨_,rfl⟩;rw[<- s];have hrf:S.heap[R]?=Lq (.cells #[a0,a1,a2,a3,a4] 118 (0,0)):=by
  rw[s,ar (ar (ar (ar (ar X))))];rfl
 have V:w.gb D Lw:=⟨q.os.trans f.os,q.tape.trans f.tape,q.output.trans f.output,LN f.size q.size,λk hk _=>(q.block k (by have:=HR.out;omega)).t (f.block k hk (by simp))⟩;have U:w.gb S Lw:=by
  rw[s];have h:=HR.out;exact jV (jV (jV (jV (jV V (an _ _ _ _) (by omega)) (an _ _ _ _) (by omega)) (an _ _ _ _) (by omega)) (an _ _ _ _) (by omega)) (an _ _ _ _) (by omega)
 have e0:=aa hrf (o:=0) rfl;have e1:=aa hrf (o:=1) rfl;have e2:=aa hrf (o:=2) rfl;have e3:=aa hrf (o:=3) rfl;have e4:=aa hrf (o:=4) rfl;refine Ot (v:=A5 (cm l)) ?_ rfl ⟨rfl,U⟩;rw[E5];simp[Om,Tryz.results112,go_sem,Mz,hrf,A5]
end
section
open Go.RowKit
structure jh where
 Bl:Ly
 By:Ly
 Bn:Ly
 Bu:Ly
 Bg:Ly
 Bp:Ly
 n1:Ly
 l:Ly
 ws:Lx LJ
 lb:LU MN
 lc:Ly
 J:Lx (Lx LJ × LA)->(Ly->Prop)->Lt->Prop
 Jx:Lx (Lx LJ × LA)->(Ly->Prop)->Lt->Prop
 T:Lx (Lx LJ)
def Pfx(X:jh)(pre:Lx (Lx LJ × LA))(L:Lx (Lx LJ)):Prop:=∃t,X.T=pre.map Po++(L++t)
def xpI(x:Lx LJ × LA)(A:Lt):Prop:=ai 0 A.heap.size A x.2 x.1
def xpO(a:Lx LJ)(x:Lx LJ × LA)(A:Lt):Prop:=xpI x A/\x.1.length=a.length/\x.1.Nodup/\(∀y∈x.1,y∈a)/\(x.1≠[]\/x.2=.slice Lw 0 0)
structure pz(X:jh):Prop where
 hlt:∀s G A,X.J s G A->∀k,G k->k<A.heap.size
 bl:X.Bl<X.n1
 b1:X.n1<=X.By
 b2:X.By<X.Bn
 b3:X.Bn<X.Bu
 b4:X.Bu<X.Bg
 b5:X.Bg<X.Bp
 hJ:∀s G A C,X.J s G A->Stp X.n1 X.Bl G A C->X.J s G C
 hJx:∀s G A C,X.Jx s G A->Stp X.n1 X.Bl G A C->X.Jx s G C
 five:∀x∈X.ws,0<=x/\x<5
 nd:X.ws.Nodup
 len:X.ws.length<=5
 hY:∀m pre G x A,X.J pre G A->xpO X.ws x A->Pfx X pre [x.1]->YieldAt Fence.wide m Ya X.l #[x.2] A λe C=>
   ∃G',(e=.returned (.bool LG)/\X.J (pre++[x]) G' C/\Bod X.n1 X.Bl G G' A C)\/(e=.returned (.bool LH)/\X.Jx (pre++[x]) G' C/\Bod X.n1 X.Bl G G' A C)
def ptA(b:Ly):LA:=.pointer (Lq b)
structure It3(X:jh)(p:Lx LJ)(G:Ly->Prop)(W:Lt)(lb:LU MN)(lc:Ly)(nv:LA):Prop where
 ls:W.heap[X.Bl]?=Lq (.cells #[.slice lb X.ws.length lc] 29 (0,0))
 li:ai X.n1 W.heap.size W (.slice lb X.ws.length lc) X.ws
 lf:∀B o,lb=Lq ⟨B,o,Lw⟩->X.ws≠[]->¬ G B
 yl:W.heap[X.By]?=Lq (.cells #[.func (.yield X.l) #[] #[]] 51 (0,0))
 us:W.heap[X.Bu]?=Lq (.cells #[.int .u8 (aP p:Ly)] 130 (0,0))
 gr:W.heap[X.Bg]?=Lq (.cells #[.func (.func 154) #[] #[ptA X.Bn,ptA X.Bl,ptA X.By,ptA X.Bu,ptA X.Bp]] 31 (0,0))
 pu:W.heap[X.Bp]?=Lq (.cells #[.func (.func 150) #[] #[ptA X.Bn,ptA X.Bu,ptA X.Bg]] 82 (0,0))
 nw:W.heap[X.Bn]?=Lq (.cells #[nv] 29 (0,0))
 no:W.ownsRow X.n1 3 1 nv p.length (p.map (Mp .i64))
 nr:∀g,nv.ownBlock=Lq g->¬ G g/\∀B o,lb=Lq ⟨B,o,Lw⟩->X.ws≠[]->B≠g
 nn:p=[]->X.ws=[]->nv=.slice Lw 0 0
 nf:¬ G X.Bl/\¬ G X.By/\¬ G X.Bn/\¬ G X.Bu/\¬ G X.Bg/\¬ G X.Bp
def vw(X:jh)(p:Lx LJ)(G:Ly->Prop)(W:Lt):Prop:=∃a,It3 X p G W X.lb X.lc a
def bm(a:Lx LJ):Ly->Lx LJ->Lx (Lx LJ)
 | 0,p=>[p]
 | m+1,p=>a.flatMap λn=>if n∈p then[] else bm a m (p++[n])
def FC(X:jh)(W:Lt)(k:Ly):Prop:=∃v a b,W.heap[X.Bn]?=Lq (.cells #[v] a b)/\v.ownBlock=Lq k
structure ItR(X:jh)(G G':Ly->Prop)(A C:Lt):Prop where
 tape:C.tape=A.tape
 size:A.heap.size<=C.heap.size
 keep:∀k,k<A.heap.size->(X.n1<=k\/k=X.Bl)->¬ G k->k≠X.Bn->k≠X.Bu->¬ FC X A k->C.heap[k]?=A.heap[k]?
 fp:∀k,G' k->G k\/A.heap.size<=k
 row:∀k,FC X C k->FC X A k\/A.heap.size<=k
def ItR.refl(X:jh)(G:Ly->Prop)(A:Lt):ItR X G G A A:=⟨rfl,LC _,λ_ _ _ _ _ _ _=>rfl,λ_ h=>.inl h,λ_ h=>.inl h⟩
def ItR.trans{X:jh}{G n c:Ly->Prop}{A C E:Lt}(h:ItR X G n A C)(k:ItR X n c C E):ItR X G c A E :=
 ⟨k.tape.trans h.tape,LN h.size k.size,λj a d f l i g=>(k.keep j (LY a h.size) d (λe=>(h.fp j e).elim f (by omega)) l i (λe=>(h.row j e).elim g (by omega))).t (h.keep j a d f l i g),
  λj a=>(k.fp j a).elim (h.fp j) (λe=>.inr (LN h.size e)),λj a=>(k.row j a).elim (h.row j) (λe=>.inr (LN h.size e))⟩
def RgB(X:jh)(p:Lx LJ)(L:Lx (Lx LJ))(pre:Lx (Lx LJ × LA))(G:Ly->Prop)(W:Lt)(b:MC)(c:Lt):Prop :=
 ∃d,vw X p d c/\ItR X G d W c/\(if b=LG then ∃a,a.map Po=L/\X.J (pre++a) d c else ∃a t,L=a.map Po++t/\X.Jx (pre++a) d c)
def Rg(X:jh)(p:Lx LJ)(L:Lx (Lx LJ))(pre:Lx (Lx LJ × LA))(G:Ly->Prop)(W:Lt)(e:Ending)(a:Lt):Prop:=∃b,e=.returned (.bool b)/\RgB X p L pre G W b a
def aH{w:Lt}{k:Ly}{o:SQ}(h:w.heap[k]?=Lq o):k<w.heap.size:=(Lz.1 h).1
def fW{w:Lt}{b n:Ly}{v:LA}{d:Lx LA}(h:w.ownsRow b 3 1 v n d){g:Ly}(c:v.ownBlock=Lq g):b<=g/\∃j,w.heap[g]?=Lq (.cells j 3 (0,0)):=by
 rcases h.2 with⟨rfl,_⟩ | ⟨f,k,i,rfl,e,a,_⟩
 ·simp[MP] at c
 ·obtain rfl:f=g:=by simpa[MP] using c
  exact⟨e,_,a⟩
def oA{d:Ly}{A C:Lt}{b:LU MN}{n f:Ly}{l:Lx LJ}(h:ai d A.heap.size A (.slice b n f) l)(v:A.heap.size<=C.heap.size)(k:∀B o,b=Lq ⟨B,o,Lw⟩->l≠[]->C.heap[B]?=A.heap[B]?):ai d C.heap.size C (.slice b n f) l:=by
 obtain⟨base,c,e,j,i⟩:=h;refine⟨base,c,e,j,λa=>?_⟩;have⟨B,o,u,p,g,s,w,r,q⟩:=i a;cases e;exact⟨B,o,u,p,g,s,by omega,(k B o g a).t r,q⟩
def qH{e:Ly}{A C:Lt}{v:LA}{n:Ly}{d:Lx LA}(h:A.ownsRow e 3 1 v n d)(i:∀g,v.ownBlock=Lq g->C.heap[g]?=A.heap[g]?):C.ownsRow e 3 1 v n d:=by
 obtain⟨l,a⟩:=h;refine⟨l,?_⟩;rcases a with a | ⟨g,c,b,rfl,k,j,f⟩
 ·exact .inl a
 ·exact .inr ⟨g,c,b,rfl,k,(i g (by simp[MP])).t j,f⟩
def qU{X:jh}{p:Lx LJ}{G:Ly->Prop}{W:Lt}{d:LU MN}{i:Ly}{g:LA}(h:It3 X p G W d i g){B o:Ly}(e:d=Lq ⟨B,o,Lw⟩)(a:X.ws≠[]):X.n1<=B/\B<W.heap.size/\∃c b,W.heap[B]?=Lq (.cells c 3 b):=by
 have⟨base,r,q,t,j⟩:=h.li;cases q;have⟨v,s,c,b,f,n,l,k,u⟩:=j a;rw[e] at f;cases f;exact⟨n,l,c,b,k⟩
def It3.body{X:jh}(O:pz X){p:Lx LJ}{G j:Ly->Prop}{A C:Lt}{s:LU MN}{r:Ly}{q:LA}(h:It3 X p G A s r q)(b:Bod X.n1 X.Bl G j A C):It3 X p j C s r q/\ItR X G j A C:=by
 have I:=O.b1;have S:=O.b2;have R:=O.b3;have Q:=O.b4;have P:=O.b5;have a:∀k,k<A.heap.size->¬ G k->¬ j k:=λk i l e=>(b.fp k e).elim l (by omega);have D:=b.keep _ (aH h.ls) (.inr rfl) h.nf.1;have x:=b.keep _ (aH h.yl) (.inl I) h.nf.2.1;have n:=b.keep _ (aH h.nw) (.inl (by omega)) h.nf.2.2.1;have y:=b.keep _ (aH h.us) (.inl (by omega)) h.nf.2.2.2.1;have F:=b.keep _ (aH h.gr) (.inl (by omega)) h.nf.2.2.2.2.1;have z:=b.keep _ (aH h.pu) (.inl (by omega)) h.nf.2.2.2.2.2;refine⟨⟨D.trans h.ls,oA h.li b.size λB o e c=>?_,λB o e c=>?_,x.t h.yl,y.t h.us,F.t h.gr,z.t h.pu,n.t h.nw,qH h.no λg e=>?_,λg e=>⟨?_,(h.nr g e).2⟩,h.nn,
  a _ (aH h.ls) h.nf.1,a _ (aH h.yl) h.nf.2.1,a _ (aH h.nw) h.nf.2.2.1,a _ (aH h.us) h.nf.2.2.2.1,a _ (aH h.gr) h.nf.2.2.2.2.1,a _ (aH h.pu) h.nf.2.2.2.2.2⟩,
  b.tape,b.size,λk i H l _ _ _=>b.keep k i H l,b.fp,λk i=>?_⟩
 ·have⟨f,d,_⟩:=qU h e c;exact b.keep B d (.inl f) (h.lf B o e c)
 ·have⟨f,d,_⟩:=qU h e c;exact a B d (h.lf B o e c)
 ·have⟨f,N,d⟩:=fW h.no e;exact b.keep g (aH d) (.inl f) (h.nr g e).1
 ·have⟨f,N,d⟩:=fW h.no e;exact a g (aH d) (h.nr g e).1
 ·obtain⟨v,w,L,u,M⟩:=i;rw[n] at u;exact .inl ⟨v,w,L,u,M⟩
def It3.push{X:jh}(O:pz X){p:Lx LJ}{G:Ly->Prop}{A E C:Lt}{W:LU MN}{V:Ly}{r:LA}(h:It3 X p G A W V r)(F:∀k,G k->k<A.heap.size){n:LJ}{g' cap:Ly}(b:A.gb E r.ownBlock)(j:E.ownsRow X.n1 3 1 (.slice (Lq g') (p.length+1) cap) (p.length+1) (p.map (Mp .i64)++[.int .i64 n]))(f:r.ownBlock=Lq g'\/A.heap.size<=g')(Q:C.os=E.os)(y:C.tape=E.tape)(z:C.output=E.output)(M:C.heap=((E.setCell X.Bn (.slice (Lq g') (p.length+1) cap)).setCell X.Bu (.int .u8 (aP (p++[n]):Ly))).heap) :It3 X (p++[n]) G C W V (.slice (Lq g') (p.length+1) cap)/\Stp X.n1 X.Bl G A C/\ItR X G G A C/\∀k,k≠X.Bn->k≠X.Bu->C.heap[k]?=E.heap[k]?:=by
 have h1:=O.b1;have h2:=O.b2;have h3:=O.b3;have h4:=O.b4;have h5:=O.b5;have h0:=O.bl;have d:∀{k:Ly} {o:SQ},A.heap[k]?=Lq o->(∀c,o≠.cells c 3 (0,0))->Lq k≠r.ownBlock:=λ{k o} i R e=>by
  have⟨_,c,s⟩:=fW h.no e.symm;rw[i] at s;exact R c (OQ s)
 have el:=(b.block _ (aH h.ls) (d h.ls (λc e=>by cases e))).t h.ls;have ey:=(b.block _ (aH h.yl) (d h.yl (λc e=>by cases e))).t h.yl;have en:=(b.block _ (aH h.nw) (d h.nw (λc e=>by cases e))).t h.nw;have Z:=(b.block _ (aH h.us) (d h.us (λc e=>by cases e))).t h.us;have eg:=(b.block _ (aH h.gr) (d h.gr (λc e=>by cases e))).t h.gr;have ep:=(b.block _ (aH h.pu) (d h.pu (λc e=>by cases e))).t h.pu;have a:∀k,k≠X.Bn->k≠X.Bu->C.heap[k]?=E.heap[k]?:=λk w u=>by
  rw[M];exact(Nd _ _ _ k (λe=>u e)).t (Nd _ _ _ k (λe=>w e))
 have cn:C.heap[X.Bn]?=Lq (.cells #[.slice (Lq g') (p.length+1) cap] 29 (0,0)):=by
  rw[M,Nd _ _ _ X.Bn (λe=>by have U:X.Bn=X.Bu:=e;omega),ar en];rfl
 have T:(E.setCell X.Bn (.slice (Lq g') (p.length+1) cap)).heap[X.Bu]?=Lq (.cells #[.int .u8 (aP p:Ly)] 130 (0,0)):=(Nd _ _ _ X.Bu (λe=>by have U:X.Bu=X.Bn:=e;omega)).t Z;have cu:C.heap[X.Bu]?=Lq (.cells #[.int .u8 (aP (p++[n]):Ly)] 130 (0,0)):=by
  rw[M,ar T];rfl
 have q:C.heap.size=E.heap.size:=by rw[M];simp[NS]
 have P:Stp X.n1 X.Bl G A C:=⟨Q.trans b.os,y.t b.tape,z.t b.output,by rw[q];exact b.size,λk i l=>by
  have w:k≠X.Bn:=by rintro rfl;exact l.elim (λl=>by omega) h.nf.2.2.1
  have u:k≠X.Bu:=by rintro rfl;exact l.elim (λl=>by omega) h.nf.2.2.2.1
  rw[a k w u];refine b.block k i λe=>?_;have⟨b1,_⟩:=fW h.no e.symm;rcases l with l | l
  ·omega
  ·exact(h.nr k e.symm).1 l⟩
 have I:X.n1<=g'/\∃c,E.heap[g']?=Lq (.cells c 3 (0,0)):=fW j (by simp[MP]);obtain⟨Y,c3,H⟩:=I;have D:∀{k:Ly} {c:LM LA} {L:LZ},E.heap[k]?=Lq (.cells c L (0,0))->L≠3->g'≠k:=λ{k c L} i ht e=>by
  rw[<- e,H] at i;cases i;exact ht rfl
 have gn:=D en (by decide);have gu:=D Z (by decide);refine⟨⟨(a _ (by omega) (by omega)).t el,oA h.li (by rw[q];exact b.size) λB o e x=>?_,h.lf,(a _ (by omega) (by omega)).t ey,cu,(a _ (by omega) (by omega)).t eg,(a _ (by omega) (by omega)).t ep,cn,?_,λg e=>?_,λe=>by simp at e,
  h.nf⟩,P,
  ⟨y.t b.tape,by rw[q];exact b.size,λk i hn S w u k3=>?_,λk i=>.inl i,λk i=>?_⟩,a⟩
 ·have⟨b1,b2,c,fr,N⟩:=qU h e x;rw[a B (λe=>?_) (λe=>?_)]
  ·exact b.block B b2 λU=>(h.nr B U.symm).2 B o e x rfl
  ·subst e;rw[h.nw] at N;cases N
  ·subst e;rw[h.us] at N;cases N
 ·rw[Na,NJ];exact qH j λg e=>a g (by
   obtain rfl:g'=g:=by simpa[MP] using e
   exact gn) (by
   obtain rfl:g'=g:=by simpa[MP] using e
   exact gu)
 ·obtain rfl:g'=g:=by simpa[MP] using e
  refine⟨λS=>?_,λB o e x s=>?_⟩
  ·rcases f with f | f
   ·exact(h.nr _ f).1 S
   ·exact absurd (F _ S) (by omega)
  ·have⟨b1,b2,_⟩:=qU h e x;rcases f with f | f
   ·exact(h.nr _ f).2 B o e x s
   ·omega
 ·rw[a k w u];exact b.block k i λe=>k3 ⟨r,_,_,h.nw,e.symm⟩
 ·obtain⟨v,L,fr,e1,s⟩:=i;rw[cn] at e1;cases e1;obtain rfl:g'=k:=by simpa[MP] using s
  rcases f with f | f
  ·exact .inl ⟨r,_,_,h.nw,f⟩
  ·exact .inr f
def wH{w:Lt}{b k:Ly}{v:LA}{c:Lx LA}{y:LA}(h:w.ownsRow b 3 1 v (k+1) (c++[y])):∃g a,v=.slice (Lq ⟨g,0,Lw⟩) (k+1) a/\k+1<=a/\w.ownsRow b 3 1 (.slice (Lq ⟨g,0,Lw⟩) k a) k c:=by
 obtain⟨p,o⟩:=h;rcases o with⟨_,q⟩ | ⟨g,a,d,rfl,n,j,l,hm,f,e⟩
 ·omega
 ·have i:c.length=k:=by simp at p;omega
  refine⟨g,a,rfl,l,by simpa using i,.inr ⟨g,a,d,rfl,n,j,by omega,hm,f,?_⟩⟩;have:=congrArg (List.take (k*1)) e;rw[List.take_take,UE (by omega)] at this;rw[this,List.take_left' (by omega)]
def It3.pop{X:jh}(O:pz X)(D:X.ws≠[]){p:Lx LJ}{G:Ly->Prop}{A C:Lt}{Q:LU MN}{P:Ly}{g b:Ly}{n:LJ}(h:It3 X (p++[n]) G A Q P (.slice (Lq g) (p.length+1) b))(Z:Popped X.Bn X.Bu (Lq ⟨g,0,Lw⟩) p.length b (aP p) A C) :It3 X p G C Q P (.slice (Lq g) p.length b)/\Stp X.n1 X.Bl G A C/\ItR X G G A C:=by
 obtain⟨H,j,l,s⟩:=Z;have h1:=O.b1;have h2:=O.b2;have h3:=O.b3;have h4:=O.b4;have h5:=O.b5;have h0:=O.bl;have a:∀k,k≠X.Bn->k≠X.Bu->C.heap[k]?=A.heap[k]?:=λk z x=>by
  rw[s];exact(Nd _ _ _ k (λe=>x e)).t (Nd _ _ _ k (λe=>z e))
 have S:C.heap[X.Bn]?=Lq (.cells #[.slice (Lq g) p.length b] 29 (0,0)):=by
  rw[s,Nd _ _ _ X.Bn (λe=>by have e':X.Bn=X.Bu:=e;omega),ar h.nw];rfl
 have M:(A.setCell X.Bn (.slice (Lq g) p.length b)).heap[X.Bu]?=Lq (.cells #[.int .u8 (aP (p++[n]):Ly)] 130 (0,0)):=(Nd _ _ _ X.Bu (λe=>by have e':X.Bu=X.Bn:=e;omega)).t h.us;have cu:C.heap[X.Bu]?=Lq (.cells #[.int .u8 (aP p:Ly)] 130 (0,0)):=by
  rw[s,ar M];rfl
 have i:C.heap.size=A.heap.size:=by rw[s];simp[NS]
 have F:Stp X.n1 X.Bl G A C:=⟨H,j,l,by rw[i];exact LC _,λk d f=>a k (λe=>by
  subst e;rcases f with f | f
  ·omega
  ·exact h.nf.2.2.1 f) (λe=>by
  subst e;rcases f with f | f
  ·omega
  ·exact h.nf.2.2.2.1 f)⟩
 have c:A.ownsRow X.n1 3 1 (.slice (Lq g) p.length b) p.length (p.map (Mp .i64)):=by
  have I:=h.no;rw[Na,NJ] at I;have⟨u,T,e,_,Y⟩:=wH (y:=.int .i64 n) I;cases e;exact Y
 have⟨_,a6,L⟩:=fW c (g:=g) (by simp[MP]);have q:∀{k:Ly} {N:LM LA} {r:LZ},A.heap[k]?=Lq (.cells N r (0,0))->r≠3->g≠k:=λ{k N r} d V e=>by
  rw[<- e,L] at d;cases d;exact V rfl
 have W:=h.nr g (by simp[MP]);refine⟨⟨(a _ (by omega) (by omega)).t h.ls,oA h.li (by rw[i];exact LC _) λB o e U=>?_,h.lf,(a _ (by omega) (by omega)).t h.yl,cu,(a _ (by omega) (by omega)).t h.gr,(a _ (by omega) (by omega)).t h.pu,S,qH c λu e=>?_,λu e=>?_,λ_ e=>absurd e D,
  h.nf⟩,F,
  ⟨j,by rw[i];exact LC _,λk d I hf z x k3=>a k z x,λk d=>.inl d,λk d=>?_⟩⟩
 ·have⟨b1,b2,N,fr,w⟩:=qU h e U;exact a B (λe=>by subst e;rw[h.nw] at w;cases w) (λe=>by subst e;rw[h.us] at w;cases w)
 ·obtain rfl:g=u:=by simpa[MP] using e
  exact a g (q h.nw (by decide)) (q h.us (by decide))
 ·obtain rfl:g=u:=by simpa[MP] using e
  exact W
 ·obtain⟨v,r,fr,R,e2⟩:=d;rw[S] at R;cases R;exact .inl ⟨_,_,_,h.nw,e2⟩
def tC(p:Lx LJ)(x:LJ):aP (p++[x])=aP p ||| 2 ^ x.toNat:=by simp[aP]
def IL(X:jh)(O:pz X)(L:Lx (Lx LJ))(p:Lx LJ)(n:Ly)(hn:(n:LJ)∈X.ws)(n2:(n:LJ)∉p)(hp:∀x∈p,x∈X.ws)(s3:p.length+1<=5)(V:∀pre G A,X.J pre G A->Pfx X pre L->vw X (p++[(n:LJ)]) G A->MH Ya 154 #[ptA X.Bn,ptA X.Bl,ptA X.By,ptA X.Bu,ptA X.Bp] A (Rg X (p++[(n:LJ)]) L pre G A)) :∀pre G A,X.J pre G A->Pfx X pre L->vw X p G A->MH Ya 150 #[n,ptA X.Bn,ptA X.Bu,ptA X.Bg] A (Rg X p L pre G A):=by
 intro pre G A hJ n8 n9;obtain⟨nv,i⟩:=n9;have⟨i0,n6,m9,m8,m7⟩:=Pd Tp.info3p;have d7:n<5:=by have:=O.five _ hn;omega
 have N:aP p<32:=ir p 5 λx hx=>by have:=O.five x (hp x hx);omega
 have e9:(aP p).testBit n=LH:=by
  rw[Bool.eq_false_iff];intro h;have⟨y,hy,r8⟩:=(da p n).1 h;have:=O.five y (hp y hy);obtain rfl:y=(n:LJ):=by omega
  exact n2 hy
 obtain⟨D,z,B,rfl⟩:=cF i.no;have t8:=O.b1;have t7:=O.b2;have t6:=O.b3;have t2:=O.b4;have t1:=O.b5;have⟨q,d,g8,Y,g,S⟩:=fg A (.cells #[n] 3);have c8:d.heap.size=A.heap.size+1:=by rw[Y,Mc]
 have u:=bk g i.nw;have s:=bk g i.us;have c9:=bk g i.gr;have s6:X.n1<=A.heap.size:=by have:=aH i.nw;omega
 have U:∀{k:Ly} {o:SQ},A.heap[k]?=Lq o->(∀cs,o≠.cells cs 3 (0,0))->Lq k≠(MU D z B).ownBlock:=λ{k o} hk n3 e=>by
  have⟨_,cs,r⟩:=fW i.no e.symm;rw[hk] at r;exact n3 cs (OQ r)
 have k7:=Lu (U i.nw (λcs e=>by cases e));have k6:=Lu (U i.us (λcs e=>by cases e));have k5:=Lu (show Lq q≠(MU D z B).ownBlock from λe=>by
  have⟨_,cs,r⟩:=fW i.no e.symm;have:=aH r;omega)
 have c1:d.cell? X.Bn=Lq (.slice D z B):=aa u rfl;have g9:d.cell? X.Bu=Lq (.int .u8 (aP p:Ly)):=aa s rfl;have c3:d.cell? q=Lq (.int .i64 n):=aa S rfl;have c4:d.cell? X.Bg=Lq (.func (.func 154) #[] #[ptA X.Bn,ptA X.Bl,ptA X.By,ptA X.Bu,ptA X.Bp]):=aa c9 rfl;have z1:=aB (o:=0) u;have z2:=aB (o:=0) s;have d9:X.Bn<d.heap.size:=aH u;have d8:X.Bu<d.heap.size:=aH s;have q0:=Lu (i.no.kept g (by cases(MU D z B).ownBlock<;>simp));have⟨HI,h9,q4,p8,a8⟩:=oC i S g Y g8;obtain⟨M,hM⟩:∃M:LJ,M=(aP p:Ly):=⟨_,rfl⟩;obtain⟨M2,Z⟩:∃M2:LJ,(aP p ||| 2 ^ n:Ly)=M2:=⟨_,rfl⟩;have c2:d.cell? X.Bu=Lq (.int .u8 M):=by rw[hM];exact g9
 have⟨HM,q1⟩:=aS hM Z;have j:∀w,MH Ya 151 #[.int .u8 M,n] w λe w'=>e=.returned (.int .u8 M2)/\w=w':=λw=>by
  rw[hM,<- Z];exact mE _ n w N d7
 have⟨p7,k0⟩:=aS j c8;have s4:X.n1<=d.heap.size:=by omega
 clear i U S g Y g8 u s c9 g9 hM Z j c8;unfold ptA at *
 go_enter_defers Tp.x150,Tryz.ntmps150;go_upto_region 1 with(fail);rw[<- a8.out,<- p8.out];refine wp_region_noPanic ?_;refine bn 7 (λw'=>w'.cell? X.Bn=Lq (.slice D z B)/\w'.cell? X.Bu=Lq (.int .u8 M)/\w'.cell? q=Lq (.int .i64 n)) (by kernel_rfl) (by kernel_rfl) ⟨c1,c2,c3⟩ (λhHeld=>?_);simp only[LX,Mj,Ms,NA,Mn,MF,MG,MZ,Mu,Mk];refine tk 0 (h:=tk 1 (h:=tk 4 (h:=tk 5 (h:=?_))));try go_frame
 refine rdc 2 λK hK=>?_;go_simp;refine hK.out _ _ (by first | exact s5 | exact hHeld | exact⟨(Lr _ _ Lw).cl hHeld.1,(Lr _ _ Lw).cl hHeld.2.1,(Lr _ _ Lw).cl hHeld.2.2⟩) (λhHeld=>?_);refine rdc 3 λK hK=>?_;refine step_append_lies _ (by rfl) _ _ _ (by rfl) X.n1 3 i0 _ 1 8 Tp.und29' n6 m9 m8 m7 rfl (by omega) (.slice D z B) p.length (p.map (Mp .i64)) (by rfl) (by exact q0.out.alloc _) ⟨d.heap.size,0,Lw⟩ 1 1 [.int .i64 n] (by rfl) (by rfl) (Of (cs:=#[n]) (t:=3) (fr:=(0,0)) (LS d _)) (by simp[OV]) (by omega) (by unfold Qe;omega) (by omega) (by simp;omega) (d.heap.size+1) (by simp) ?_;intro g' cap w5 l a Q r4;have c:d.gb w5 (MU D z B).ownBlock:=((Lr d (.cells #[n] 3) Lw).but _).trans ⟨a.os,a.tape,a.output,a.size,a.block⟩;have s5:w5.cell? X.Bn=Lq (.slice D z B)/\w5.cell? X.Bu=Lq (.int .u8 M)/\w5.cell? q=Lq (.int .i64 n):=⟨c.cell c1 k7.out,c.cell c2 k6.out,c.cell c3 k5.out⟩;have l9:=(c.frozen_far _ d9 k7.out).trans z1;have l8:=(c.frozen_far _ d8 k6.out).trans z2;have⟨p9,k9,l4⟩:=bL l c Q;clear l c Q a;refine hK.out _ _ (by first | exact s5 | exact hHeld | exact⟨(Lr _ _ Lw).cl hHeld.1,(Lr _ _ Lw).cl hHeld.2.1,(Lr _ _ Lw).cl hHeld.2.2⟩) (λhHeld=>?_);refine rdc 6 λK hK=>?_;go_simp;go_at_call 151;refine(p7.out _).mono ?_;rintro e w2 ⟨rfl,rfl⟩;refine hK.out _ _ (by first | exact s5 | exact hHeld | exact⟨(Lr _ _ Lw).cl hHeld.1,(Lr _ _ Lw).cl hHeld.2.1,(Lr _ _ Lw).cl hHeld.2.2⟩) (λhHeld=>?_);try go_frame
 refine⟨by kernel_rfl,?_⟩;simp only[MQ,Nu];have d6:X.Bn≠X.Bu:=by omega
 have r3:X.Bu≠X.Bn:=by omega
 have m5:=s5.1;have m4:=s5.2.1;go_wp2;refine NoPanic.normal ?_;obtain⟨C,hC⟩:∃C,C=(w5.setCell X.Bn (.slice (Lq g') (p.length+1) cap)).setCell X.Bu (.int .u8 M2):=⟨_,rfl⟩;rw[<- hC];have⟨a6,T,e5,W⟩:=HI.out.push O (O.hlt _ _ _ hJ) (n:=(n:LJ)) (g':=g') (cap:=cap) (A:=A) (E:=w5) (C:=C) ((q4.out.but _).trans k9.out) p9.out (by rcases l4.out with h | h;exact .inl h;right;have:=k0.out;omega) (by rw[hC];rfl) (by rw[hC];rfl) (by rw[hC];rfl) (by rw[hC,tC,Pe,q1.out]);have g7:=O.hJ _ _ _ _ hJ T;have e8:C.heap[q]?=Lq (.cells #[n] 3 (0,0)):=by
  have h1:=aH HI.out.nw;have h2:=aH HI.out.us;have h3:=a8.out;rw[W q (by omega) (by omega)];exact(k9.out.block _ (aH h9.out) k5.out).trans h9.out
 have u9:C.cell? X.Bg=Lq (.func (.func 154) #[] #[.pointer (Lq X.Bn),.pointer (Lq X.Bl),.pointer (Lq X.By),.pointer (Lq X.Bu),.pointer (Lq X.Bp)]):=aa (o:=0) a6.gr rfl;have⟨HC,v6,k8,v2,q3,q2,h8⟩:=BP hC W a6 T e5 g7 e8;clear hC W a6 T e5 g7 e8 m5 m4 s5 l9 l8 c1 c2 c3 c4 z1 z2 d9 d8 hHeld;go_wp2_with (go_at_call 154;refine(V pre G C q2.out n8 ⟨_,k8.out⟩).mono ?_;rintro e w6 ⟨b,rfl,hR⟩);obtain⟨G6,⟨m6,h6⟩,P,H⟩:=hR;have I:=h6.no;rw[Na,NJ] at I;obtain⟨g6,R,e6,n7,-⟩:=wH (y:=.int .i64 n) I;have p3:m6=.slice (Lq g6) (p.length+1) R:=e6;subst p3;have u5:=a8.out;have s7:=aH HI.out.nw;have s1:=aH HI.out.us;have e7:w6.heap[q]?=Lq (.cells #[n] 3 (0,0)):=by
  rw[P.keep q (aH h8.out) (.inl (by omega)) (λhf=>?_) (by omega) (by omega) (λhr=>?_)]
  ·exact h8.out
  ·have:=O.hlt _ _ _ hJ _ hf;omega
  ·obtain⟨v,ty,fr,e1,r⟩:=hr;rw[k8.out.nw] at e1;cases e1;obtain rfl:g'=q:=by simpa[MP] using r
   rcases l4.out with h | h
   ·have⟨_,cs,h2⟩:=fW HI.out.no h;have:=aH h2;omega
   ·have:=k0.out;omega
 refine Sw (f:=152) (args:=#[.pointer (Lq X.Bn),.pointer (Lq X.Bu),.pointer (Lq q)]) (by simp) (by simp[go_sem]) ?_;refine(Gn X.Bn X.Bu q (Lq ⟨g6,0,Lw⟩) p.length R (aP p) n w6 d7 N e9 (by omega) n7 d6 (by omega) h6.nw (by rw[h6.us,tC,Pe]) e7 _).mono ?_;rintro e u' w7 ⟨rfl,rfl,d5⟩;have⟨h7,F,e4⟩:=h6.pop O (λe=>by rw[e] at hn;cases hn) d5;refine⟨.bool b,by rw[Sv (t:=5) rfl];rfl,b,rfl,G6,⟨_,h7⟩,(q3.out.trans P).trans e4,?_⟩;cases b with
 | true=>
  obtain⟨xs,e1,r⟩:=H;exact⟨xs,e1,O.hJ _ _ _ _ r F⟩
 | false=>
  obtain⟨xs,t,e1,r⟩:=H;exact⟨xs,t,e1,O.hJx _ _ _ _ r F⟩
end
section
open Go.RowKit Go.Shelf
attribute [local go_sem] Oper.semAt_some
def Aa{w:Lt}{b n:Ly}{v:LA}{d:Lx LA}(h:w.ownsRow b 3 1 v n d):∃a c,v=.slice a n c:=by
 rcases h.2 with⟨rfl,e⟩ | ⟨g,i,f,rfl,_⟩
 ·exact⟨Lw,0,by rw[e]⟩
 ·exact⟨_,_,rfl⟩
def It3.xp{X:jh}{p:Lx LJ}{G:Ly->Prop}{W:Lt}{c:LU MN}{b:Ly}{a:LA}(h:It3 X p G W c b a)(d:p.length<=5):xpI (p,a) W:=(ai.own h.no (by omega)).mono (Mw _) (LC _)
def BT(X:jh)(O:pz X)(p:Lx LJ)(i:p.length=X.ws.length)(r:p.Nodup)(q:∀x∈p,x∈X.ws):∀pre G A,X.J pre G A->Pfx X pre (bm X.ws 0 p)->vw X p G A->MH Ya 154 #[ptA X.Bn,ptA X.Bl,ptA X.By,ptA X.Bu,ptA X.Bp] A (Rg X p (bm X.ws 0 p) pre G A):=by
 intro pre G A hJ s t;obtain⟨H,a⟩:=t;have d:=a.xp (by have:=O.len;omega);obtain⟨g,f,rfl⟩:=Aa a.no;have N:A.cell? X.Bn=Lq (.slice g p.length f):=aa a.nw rfl;have M:A.cell? X.Bl=Lq (.slice X.lb X.ws.length X.lc):=aa a.ls rfl;have L:A.cell? X.By=Lq (.func (.yield X.l) #[] #[]):=aa a.yl rfl;have⟨I,v,j,w,B,F⟩:=O.hY 2 pre G (p,.slice g p.length f) A hJ ⟨d,i,r,q,(VU (p=[])).elim (λh=>.inr (a.nn h (MT (by rw[<- i,h];rfl)))) .inl⟩ s;have C:((p.length:LJ) == (X.ws.length:LJ))=LG:=by rw[i];simp
 have y:=Lu a;dsimp only at B;clear d a i;refine(NM (n:=3)).1 ?_;refine Ud Tp.x154 rfl trivial ?_ rfl;have D:∀k:Ly,(Fence.wide.depth.isSome=LG->1<=k):=λk h=>by cases h
 unfold ptA;simp only[Xx,Mt,LX,Mj,Ms,NA,MF,MG,MZ,OY,Mu,Mk]
 gi_wp2
 refine F.mono ?_;rintro e P ⟨z,⟨rfl,c,b⟩ | ⟨rfl,c,b⟩⟩
 ·gi_wp2
  go_ret;have⟨u,o⟩:=y.out.body O b;exact⟨LG,rfl,z,⟨_,u⟩,o,[(p,.slice g p.length f)],rfl,c⟩
 ·gi_wp2
  go_ret;have⟨u,o⟩:=y.out.body O b;exact⟨LH,rfl,z,⟨_,u⟩,o,[(p,.slice g p.length f)],[],rfl,c⟩
def jw(a p:Lx LJ)(m k:Ly)(x:LJ)(h:a[k]?=Lq x):((a.take (k+1)).flatMap λn=>if n∈p then[] else bm a m (p++[n]))=((a.take k).flatMap λn=>if n∈p then[] else bm a m (p++[n]))++(if x∈p then[] else bm a m (p++[x])):=by
 rw[Np,h];simp
def kC(a p:Lx LJ)(m k:Ly):bm a (m+1) p=((a.take k).flatMap λn=>if n∈p then[] else bm a m (p++[n]))++((a.drop k).flatMap λn=>if n∈p then[] else bm a m (p++[n])):=by
 rw[<- TA,List.take_append_drop];rfl
def BU(X:jh)(O:pz X)(m:Ly)(p:Lx LJ)(hp:p.length+(m+1)=X.ws.length)(b6:p.Nodup)(r:∀x∈p,x∈X.ws)(ih:∀q,q.length+m=X.ws.length->q.Nodup->(∀x∈q,x∈X.ws)->∀pre G A,X.J pre G A->Pfx X pre (bm X.ws m q)->vw X q G A->MH Ya 154 #[ptA X.Bn,ptA X.Bl,ptA X.By,ptA X.Bu,ptA X.Bp] A (Rg X q (bm X.ws m q) pre G A)) :∀pre G A,X.J pre G A->Pfx X pre (bm X.ws (m+1) p)->vw X p G A->MH Ya 154 #[ptA X.Bn,ptA X.Bl,ptA X.By,ptA X.Bu,ptA X.Bp] A (Rg X p (bm X.ws (m+1) p) pre G A):=by
 intro pre G A hJ W c9;obtain⟨nv,Q⟩:=c9;have b8:=O.len;obtain⟨na,nc,rfl⟩:=Aa Q.no;have c1:A.cell? X.Bn=Lq (.slice na p.length nc):=aa Q.nw rfl;have c2:A.cell? X.Bl=Lq (.slice X.lb X.ws.length X.lc):=aa Q.ls rfl;have k8:((p.length:LJ) == (X.ws.length:LJ))=LH:=by rw[beq_eq_false_iff_ne];omega
 have z:∀n:Ly,(n:LJ)∈X.ws->¬ (n:LJ)∈p->∀pre G A,X.J pre G A->Pfx X pre (bm X.ws m (p++[(n:LJ)]))->vw X p G A->MH Ya 150 #[.int .i64 n,ptA X.Bn,ptA X.Bu,ptA X.Bg] A (Rg X p (bm X.ws m (p++[(n:LJ)])) pre G A):=λn hn S=>
  IL X O _ p n hn S r (by omega) (ih _ (by simp;omega) (List.nodup_append.2 ⟨b6,by simp,λa ha b hb e=>S (by rw[Nl.1 hb] at e;exact e ▸ ha)⟩) (λx P=>by rcases Ob.1 P with h | h;exact r x h;rw[Nl.1 h];exact hn))
 have a7:=Lu z;have d5:=Q;have⟨HI,HJ,HP,e4⟩:=dD Q hJ hp W;clear W;clear Q hp ih hJ z d5;refine(NM (n:=3)).1 ?_;refine Ud Tp.x154 rfl trivial ?_ rfl;have l4:∀k:Ly,(Fence.wide.depth.isSome=LG->1<=k):=λk h=>by cases h
 unfold ptA at *
 simp only[Xx,Mt,LX,Mj,Ms,NA,MF,MG,MZ,OY,Mu,Mk]
 gi_wp2
 gi_loopw [18] (λiv wr=>∃k:Ly,iv=.int .i64 k/\k<=X.ws.length/\∃N,vw X p N wr/\ItR X G N A wr/\∃j,j.map Po=((X.ws.take k).flatMap λn=>if n∈p then[] else bm X.ws m (p++[n]))/\X.J (pre++j) N wr) (λiv _=>(X.ws.length - intOf iv).toNat)
 case atStart=>exact⟨0,rfl,by omega,G,⟨_,HI.out⟩,ItR.refl _ _ _,[],by simp,by simpa using HJ.out⟩
 case round=>
  obtain⟨k,rfl,hk,N,⟨h9,Z⟩,V,j,R,Y⟩:=hrel;have⟨g,v,i,L⟩:=dD Z V R Y;clear Z V R Y c1 c2;by_cases s:k<X.ws.length
  ·obtain⟨x,l⟩:∃x,X.ws[k]?=Lq x:=⟨_,LO s⟩;have F:=Mh l;have k7:=O.five x F;obtain⟨b1,m3,he,-,hc⟩:=g.out.li.cell;cases he;have⟨B,o,b9,l9,l8,l7,a6⟩:=hc (by intro e;rw[e] at s;simp at s);have P:=a6 k s;rw[l] at P;simp only[LQ] at P;obtain⟨n,rfl⟩:∃n:Ly,x=n:=⟨x.toNat,by omega⟩;have c3:wr.cell? X.Bu=Lq (.int .u8 (aP p:Ly)):=aa g.out.us rfl;have c4:wr.cell? X.Bp=Lq (.func (.func 150) #[] #[.pointer (Lq X.Bn),.pointer (Lq X.Bu),.pointer (Lq X.Bg)]):=aa g.out.pu rfl;have b7:n<5:=by omega
   have T:aP p<32:=ir p 5 λx P=>by have:=O.five x (r x P);omega
   have g6:(k:LJ)<(X.ws.length:LJ):=by omega
   have⟨u,d8⟩:=aS l F;obtain⟨M,hM⟩:∃M:LJ,M=(aP p:Ly):=⟨_,rfl⟩;rw[<- hM] at c3;have D:(aP p).testBit n=decide ((n:LJ)∈p):=by
    rw[Bool.eq_iff_iff,da,decide_eq_true_eq];constructor
    ·rintro⟨y,hy,k6⟩;have:=O.five y (r y hy);obtain rfl:y=(n:LJ):=by omega
     exact hy
    ·exact λh=>⟨n,h,by omega⟩
   have C:∀w,MH Ya 129 #[.int .u8 M,.int .i64 n] w λe w'=>e=.returned (.bool (decide ((n:LJ)∈p)))/\w=w':=λw=>by
    rw[hM,<- D];exact pX _ n w T b7
   have c:=Lu C;clear l F hc a6 hM D C;rw[b9];by_cases d:(n:LJ)∈p
   ·have U:decide ((n:LJ)∈p)=LG:=by simpa using d
    have f:=Lu d;clear d;rw[U] at c;clear U
    gi_wp2_with (refine⟨trivial,?_⟩;gi_at_call 129;refine(NM.2 (c.out _)).mono ?_;rintro e w2 ⟨rfl,rfl⟩)
    refine⟨λ_ h=>(by cases h),?_⟩
    gi_wp2
    go_roundw
    case rel=>exact⟨k+1,by simp,by omega,N,⟨_,g.out⟩,v.out,j,by rw[jw _ _ _ _ _ u.out,if_pos f.out,List.append_nil];exact i.out,L.out⟩
    case measure=>simp[intOf];omega
   ·have U:decide ((n:LJ)∈p)=LH:=by simpa using d
    have f:=Lu d;clear d;rw[U] at c;clear U;have d9:=Lu (show Pfx X (pre++j) (bm X.ws m (p++[(n:LJ)])) by
     have⟨t,ht⟩:=e4.out;rw[kC X.ws p m (k+1),jw _ _ _ _ _ u.out,if_neg f.out,<- i.out] at ht;exact⟨_,by rw[ht,NJ];simp only[OE];rfl⟩)
    gi_wp2_with (first
     | (refine⟨trivial,?_⟩;gi_at_call 129;refine(NM.2 (c.out _)).mono ?_;rintro e w2 ⟨rfl,rfl⟩)
     | (refine⟨trivial,?_⟩;gi_at_call 150;refine(NM.2 (a7.out n d8.out f.out (pre++j) N _ L.out d9.out ⟨_,g.out⟩)).mono ?_;rintro e w3 ⟨b,rfl,hR⟩;cases b))
    ·obtain⟨G3,I,H,ys,t,e1,e2⟩:=hR;go_ret;refine⟨LH,rfl,G3,I,v.out.trans H,j++ys,t++((X.ws.drop (k+1)).flatMap λn=>if n∈p then[] else bm X.ws m (p++[n])),?_,by simpa using e2⟩;rw[kC X.ws p m (k+1),jw _ _ _ _ _ u.out,if_neg f.out,e1,NJ,i.out];simp
    ·obtain⟨G3,I,H,ys,e1,e2⟩:=hR;go_roundw
     case rel=>exact⟨k+1,by simp,by omega,G3,I,v.out.trans H,j++ys,by rw[jw _ _ _ _ _ u.out,if_neg f.out,NJ,i.out,e1],by simpa using e2⟩
     case measure=>simp[intOf];omega
  ·obtain rfl:k=X.ws.length:=by omega
   gi_wp2
   go_ret;exact⟨LG,rfl,N,⟨_,g.out⟩,v.out,j,by rw[i.out,kC X.ws p m X.ws.length];simp,L.out⟩
def xq(X:jh)(O:pz X):∀(m:Ly) (q:Lx LJ),q.length+m=X.ws.length->q.Nodup->(∀x∈q,x∈X.ws)->∀pre G A,X.J pre G A->Pfx X pre (bm X.ws m q)->vw X q G A->MH Ya 154 #[ptA X.Bn,ptA X.Bl,ptA X.By,ptA X.Bu,ptA X.Bp] A (Rg X q (bm X.ws m q) pre G A)
 | 0,q,h,b,a=>BT X O q (by omega) b a
 | m+1,q,h,b,a=>BU X O m q h b a (xq X O m)
end
section
open Go.RowKit Go.Shelf
def uw{F:Fence}(a:F.depth=Lw)(k:Ly):F.room k:=λd h=>by rw[a] at h;cases h
def DQ{F:Fence}(g:F.depth=Lw){m e:Ly}{P:LV}{l:Ly}{f:Nh}{b:LM LA}{a d:Og}{w:Lt}{R:Ending->Lt->Prop}(h:RoundIn F m P l f b a d w R):RoundIn F e P l f b a d w R:=⟨h.1,λc i _=>h.2 c i (uw g _)⟩
def Cz{F:Fence}(g:F.depth=Lw){m:Ly}(e:Ly){P:LV}{l:Ly}{b:LM LA}{W:Lt}{R:Ending->Lt->Prop}(h:YieldAt F m P l b W R):YieldAt F e P l b W R:=by
 obtain⟨j,c,a,d,f,i⟩:=h;exact⟨j,c,a,d,f,DQ g i⟩
def yV(n:Ly)(Bl:Ly)(b:LU MN)(c:Ly)(M ws:Lx LJ)(hS:nH M ws)(h5:∀x∈ws,0<=x/\x<5)(m7:ws.Nodup)(g7:ws.length<=5)(l:Ly)(J Jx:Lx (Lx LJ × LA)->(Ly->Prop)->Lt->Prop)(G0:Ly->Prop)(W:Lt)(k5:W.heap[Bl]?=Lq (.cells #[.slice b M.length c] 29 (0,0)))(hI:ai 0 W.heap.size W (.slice b M.length c) M)(hB:¬ G0 Bl)(hF:∀s G A,J s G A->∀k,G k->k<A.heap.size)(hJ:∀s G A C,J s G A->Stp W.heap.size Bl G A C->J s G C)(n6:∀s G A C,Jx s G A->Stp W.heap.size Bl G A C->Jx s G C)(hY:∀pre G x D,J pre G D->xpO ws x D->(∃t,bm ws ws.length []=(pre++[x]).map Po++t)->YieldAt Fence.wide n Ya l #[x.2] D λe W'=>∃G',(e=.returned (.bool LG)/\J (pre++[x]) G' W'/\Bod W.heap.size Bl G G' D W')\/(e=.returned (.bool LH)/\Jx (pre++[x]) G' W'/\Bod W.heap.size Bl G G' D W'))(h0:J [] G0 W) :MH Ya 149 #[.func (.yield l) #[] #[],.pointer (Lq Bl)] W λe W'=>(∃v,e=.returned v)/\((∃xs G,xs.map Po=bm ws ws.length []/\J xs G W')\/(∃pre G,(∃t,bm ws ws.length []=pre.map Po++t)/\Jx pre G W')):=by
 have k0:=aH k5;have⟨By,D,b9,b6,I,e9⟩:=fg W (.cells #[.func (.yield l) #[] #[]] 51);have N:D.heap.size=By+1:=by rw[b6,Mc,b9]
 have F:=bk I k5;have c1:D.cell? Bl=Lq (.slice b M.length c):=aa F rfl;have z1:=aB (o:=0) F;have g6:Bl<D.heap.size:=aH F;have q1:=Lu ((hI.kept I).mono (LC _) I.size);have⟨p6,c9,p7,q3,p5,l5⟩:=sr b6 b9 N I e9 F;clear b6 b9 N I e9 F hI;go_enter Tp.x149,Tryz.ntmps149;go_upto_region 1 with(fail);rw[<- c9,<- p6];go_upto_region 2 with(first
  | (go_at_call 135;refine(lQ _ _ _ _).mono ?_;rintro e w2 ⟨rfl,rfl⟩)
  | (go_at_call 134;refine(hS D.heap.size (.slice b M.length c) _ (by simp) (by rw[gS];rfl) ((q1.alloc _).mono (LC _) (by simp))).mono ?_;rintro e w2 ⟨v,rfl,b8,Q,f⟩;obtain⟨lb,lc,rfl,-,-⟩:=b8.cell;have c2:=(((Lr D (.cells #[.slice b M.length c] 29) Lw).t f).cl c1);have z2:=(((Lr D (.cells #[.slice b M.length c] 29) Lw).t f).frozen_far _ g6 (by simp)).t z1;have q0:=Lu b8;have L:=Lu ((Lr D (.cells #[.slice b M.length c] 29) Lw).t f);have u9:=Lu Q;clear b8 Q f))
 have s5:=aH ((bk L l5));obtain⟨d,b0⟩:∃d,d=w2.setCell Bl (.slice lb ws.length lc):=⟨_,rfl⟩;rw[<- b0];have q:=Lu b0;clear b0 c1 c2 z1 z2;have s7:∀(a:MN) (fn:Fn) (x y:LM LA) (m:Mode) (w:Lt),(store a (.func fn x y) m).run Ya w=stored Ya w a (.func fn x y) m:=λa fn x y m w=>run_store _ w a _ m rfl;go_upto_region 6 with(fail);obtain⟨u,i⟩:∃u,u=(((d.alloc (.cells #[.slice Lw 0 0] 29)).alloc (.cells #[.int .u8 0] 130)).alloc (.cells #[.nilFunc] 31)).alloc (.cells #[.func (.func 150) #[] #[.pointer (Lq d.heap.size),.pointer (Lq (d.heap.size+1:Ly)),.pointer (Lq (d.heap.size+1+1:Ly))]] 82):=⟨_,rfl⟩;have e8:(((d.alloc (.cells #[.slice Lw 0 0] 29)).alloc (.cells #[.int .u8 0] 130)).alloc (.cells #[.nilFunc] 31)).alloc (.cells #[.func (.func 150) #[] #[.pointer (Lq d.heap.size),.pointer (Lq (d.heap.size+1:Ly)),.pointer (Lq (d.heap.size+1+1:Ly))]] 82)=u:=i.symm;rw[e8];clear e8;obtain⟨S,j⟩:∃S,S=d.heap.size:=⟨_,rfl⟩;rw[<- j] at i ⊢;have O:d.heap.size=w2.heap.size:=by rw[q];simp[NS]
 have q7:=L.out.size;have g9:d.heap[Bl]?=Lq (.cells #[.slice lb ws.length lc] 29 (0,0)):=by rw[q,ar (bk L l5)];rfl
 have e7:d.heap[By]?=Lq (.cells #[.func (.yield l) #[] #[]] 51 (0,0)):=by
  rw[q,Nd _ _ _ By (λe=>by have e':By=Bl:=e;have:=c9.out;omega)];exact bk L p5
 have ha:∀(w:Lt) (o:SQ) (k:Ly) (p:SQ),w.heap[k]?=Lq p->(w.alloc o).heap[k]?=Lq p:=λw o k p h=>aD h;have k6:=j;have Y:∀(w:Lt) (o:SQ),(w.alloc o).heap.size=w.heap.size+1:=λw o=>Mc w o;have n8:u.heap[S]?=Lq (.cells #[.slice Lw 0 0] 29 (0,0)):=by rw[i,j];exact ha _ _ _ _ (ha _ _ _ _ (ha _ _ _ _ (LS d _)))
 have u8:u.heap[S+1]?=Lq (.cells #[.int .u8 0] 130 (0,0)):=by
  rw[i];refine ha _ _ _ _ (ha _ _ _ _ ?_);have:=LS (d.alloc (.cells #[.slice Lw 0 0] 29)) (.cells #[.int .u8 0] 130)
  rwa [Y,<- j] at this
 have g8:u.heap[S+2]?=Lq (.cells #[.nilFunc] 31 (0,0)):=by
  rw[i];refine ha _ _ _ _ ?_;have:=LS ((d.alloc (.cells #[.slice Lw 0 0] 29)).alloc (.cells #[.int .u8 0] 130)) (.cells #[.nilFunc] 31)
  rwa [Y,Y,<- j] at this
 have p8:u.heap[S+3]?=Lq (.cells #[.func (.func 150) #[] #[.pointer (Lq S),.pointer (Lq (S+1:Ly)),.pointer (Lq (S+2:Ly))]] 82 (0,0)):=by
  rw[i];have:=LS (((d.alloc (.cells #[.slice Lw 0 0] 29)).alloc (.cells #[.int .u8 0] 130)).alloc (.cells #[.nilFunc] 31)) (.cells #[.func (.func 150) #[] #[.pointer (Lq S),.pointer (Lq (S+1:Ly)),.pointer (Lq (S+1+1:Ly))]] 82)
  rwa [Y,Y,Y,<- j] at this
 have h9:d.gb u Lw:=by
  rw[i];exact(((Lr _ _ Lw).t (Lr _ _ Lw)).t (Lr _ _ Lw)).t (Lr _ _ Lw)
 have cg:u.cell? (S+1+1:Ly)=Lq .nilFunc:=aa g8 rfl;have zg:u.frozen? ⟨S+1+1,0,Lw⟩=LH:=aB g8;have⟨n4,m9,n7,n3,z,l4,p9,p4⟩:=GI n8 u8 g8 p8 h9 j g9 e7;have k9:=Lu O;clear n8 u8 g8 p8 h9 j g9 e7 O i ha Y k6;go_upto_region 7 with(fail);obtain⟨C,V⟩:∃C,C=u.setCell (S+2:Ly) (.func (.func 154) #[] #[.pointer (Lq S),.pointer (Lq Bl),.pointer (Lq By),.pointer (Lq (S+1:Ly)),.pointer (Lq (S+3:Ly))]):=⟨_,rfl⟩;have eC:u.setCell (S+1+1:Ly) (.func (.func 154) #[] #[.pointer (Lq S),.pointer (Lq Bl),.pointer (Lq By),.pointer (Lq (S+1:Ly)),.pointer (Lq (S+1+1+1:Ly))])=C:=V.symm;rw[eC];clear eC cg zg;have H:=an u (S+2) 0 (.func (.func 154) #[] #[.pointer (Lq S),.pointer (Lq Bl),.pointer (Lq By),.pointer (Lq (S+1:Ly)),.pointer (Lq (S+3:Ly))]);rw[<- V] at H;have f:C.heap[S+2]?=Lq (.cells #[.func (.func 154) #[] #[.pointer (Lq S),.pointer (Lq Bl),.pointer (Lq By),.pointer (Lq (S+1:Ly)),.pointer (Lq (S+3:Ly))]] 31 (0,0)):=by rw[V,ar n7];rfl
 have k8:∀k o,k≠S+2->u.heap[k]?=Lq o->C.heap[k]?=Lq o:=λk o hk h=>blk H (by simpa using hk) h;have k4:∀k o,d.heap[k]?=Lq o->C.heap[k]?=Lq o:=λk o h=>k8 k o (by have:=aH h;have:=l4.out;omega) (bk z h);have k7:=c9.out;have N:=p7.out;have hS:=l4.out;have m4:=k9.out;have n9:C.heap.size=u.heap.size:=by rw[V];simp[NS]
 have m5:=z.out.size;have g5:Stp W.heap.size Bl G0 W C:=by
  have h2:=q3.out.t L;refine⟨?_,?_,?_,?_,λk hk hc=>?_⟩
  ·rw[V];exact z.os.trans (by rw[q];exact h2.os)
  ·rw[V];exact z.tape.trans (by rw[q];exact h2.tape)
  ·rw[V];exact z.output.trans (by rw[q];exact h2.output)
  ·omega
  ·have m8:k≠Bl:=by
    rintro rfl;rcases hc with hc | hc
    ·exact hc.2 rfl
    ·exact hB hc
   have e2:=h2.block k hk (by simp);have e4:d.heap[k]?=w2.heap[k]?:=by rw[q];exact Nd _ _ _ k (λe=>m8 e)
   have e8:=z.out.block k (by omega) (by simp);rw[H.block k (by omega) (by simp;omega),e8,e4,e2]
 have r:∀k,W.heap.size<=k->¬ G0 k:=λk hk h=>by have:=hF _ _ _ h0 k h;omega
 obtain⟨X,U⟩:∃X:jh,X={ Bl,By,Bn:=S,Bu:=S+1,Bg:=S+2,Bp:=S+3,n1:=W.heap.size,l,ws,lb,lc,J,Jx,T:=bm ws ws.length [] }:=⟨_,rfl⟩;have hO:pz X:=by
  rw[U];exact⟨hF,k0,by show W.heap.size<=By;omega,by show By<S;omega,by show S<S+1;omega,by show S+1<S+2;omega,by show S+2<S+3;omega,hJ,n6,h5,m7,g7,λm pre G x A h1 h2 h3=>Cz rfl m (hY pre G x A h1 h2 (by obtain⟨t,ht⟩:=h3;exact⟨t,by rw[NJ,OE];exact ht⟩))⟩
 have Z:ai W.heap.size C.heap.size C (.slice lb ws.length lc) ws:=by
  have h:=q0.out;rw[Mc] at h;have h4:=h.kept (an w2 Bl 0 (.slice lb ws.length lc)) (λR e=>by cases e;left;omega);rw[<- q] at h4;have h8:=h4.kept z;have hc:=h8.kept H (λR e=>by cases e;right;omega);exact hc.mono (by omega) (by omega)
 have b7:It3 X [] G0 C lb lc (.slice Lw 0 0):=by
  rw[U];refine⟨k4 _ _ p9,Z,λB o e m6=>?_,k4 _ _ p4,k8 (S+1) _ (by omega) m9,f,k8 (S+3) _ (by omega) n3,k8 S _ (by omega) n4,OF _ _ _ _,λg e=>by simp[MP] at e,λ_ _=>rfl,hB,r _ (by show W.heap.size<=By;omega),r _ (by show W.heap.size<=S;omega),r _ (by show W.heap.size<=S+1;omega),r _ (by show W.heap.size<=S+2;omega),r _ (by show W.heap.size<=S+3;omega)⟩;obtain⟨base,u5,e',hl,hr⟩:=Z;cases e';have⟨B',o',cs,fr,e1,e2,e3,e4,e5⟩:=hr m6;rw[e] at e1;cases e1;exact r _ e2
 have a6:=xq X hO ws.length [] (by rw[U];simp) (by simp) (by simp) [] G0 C (by rw[U];exact hJ _ _ _ _ h0 g5) (by rw[U];exact⟨[],by simp⟩) ⟨_,by rw[U] at b7 ⊢;exact b7⟩;rw[U] at a6;have cG:C.cell? (S+1+1:Ly)=Lq (.func (.func 154) #[] #[.pointer (Lq S),.pointer (Lq Bl),.pointer (Lq By),.pointer (Lq (S+1:Ly)),.pointer (Lq (S+3:Ly))]):=aa f rfl;have q2:=Lu a6;clear a6 b7 hO U Z r g5 n9 m5 V H f k8 k4 k7 N hS m4;go_wp2_with (go_at_call 154;refine(q2).mono ?_;rintro e w9 ⟨b',rfl,hR⟩);go_end0;refine⟨⟨_,rfl⟩,?_⟩;obtain⟨G9,-,-,P⟩:=hR;cases b' with
 | true=>
  obtain⟨xs,e1,e2⟩:=P;exact .inl ⟨xs,G9,e1,by simpa using e2⟩
 | false=>
  obtain⟨xs,t,e1,e2⟩:=P;exact .inr ⟨xs,G9,⟨t,e1⟩,by simpa using e2⟩
def mh(b:LU MN)(n c:Ly)(w:Lt):MH Ya 117 #[.slice b n c] w λe a=>e=.returned (.func (.func 149) #[] #[.pointer (Lq w.heap.size)])/\a=w.alloc (.cells #[.slice b n c] 29):=by
 go_enter Tp.x117,Tryz.ntmps117;go_wp2;go_ret;exact⟨rfl,rfl⟩
def jy(n:Ly)(g:Ly)(b:LU MN)(c:Ly)(d a:Lx LJ)(p:nH d a)(u:∀x∈a,0<=x/\x<5)(h:a.Nodup)(e:a.length<=5)(w0:Lt)(f:w0.heap[g]?=Lq (.cells #[.slice b d.length c] 29 (0,0)))(q:ai 0 w0.heap.size w0 (.slice b d.length c) d) :Ky Fence.wide n Ya 149 #[.pointer (Lq g)] (λx:Lx LJ × LA=>#[x.2]) (xpO a) (λk=>k.map Po=bm a a.length []) (λpre=>∃t,bm a a.length []=pre.map Po++t) g w0:=λl J w y W i s r hJ j o v=>
 NM.2 (yV (n - 1) g b c d a p u h e l J w y W ((i.block g (aH f)).t f) ((q.kept (iX i)).mono (LC _) i.size) s r hJ j o v)
def nz(u r:Ly)(yv qv:LA)(c:Lx Par)(a:LJ)(l:Lx LJ)(w:Lt)(X:dh u r w yv c a)(hI:ai u r w qv l)(V:r<=w.heap.size)(L:YOk c a)(C:PIn c l) :MH Ya 114 #[yv,qv] w λe v=>e=.returned (.bool (decide (aV c l<=a) && aL c (pre Par.mx c c.length) l))/\w.gb v Lw:=by
 obtain⟨pv,rfl,Z⟩:=X;obtain⟨F,D,rfl,d5,-⟩:=Z.cell;obtain⟨base,a7,rfl,d6,-⟩:=hI.cell;have⟨Y,q,O,H,k,P⟩:=fg w (.cells #[.slice F c.length D,a] 91);have⟨U,T⟩:=aS P k;have b7:=Lu (hI.kept k);have b6:=Lu (Z.kept k);have⟨b0,a8,y,f⟩:=dD H O L C;have g:r<=q.heap.size:=LN V k.size;clear k P H O hI Z L C;go_enter Tp.x114,Tryz.ntmps114;go_upto_region 1 with(fail);rw[<- a8,<- b0];have b:=Lu (Mf q Lw);have G:∀W,q.gb W Lw->dh u r W (.agg #[.slice F c.length D,a]) c a:=λW h=>⟨_,rfl,b6.kept h⟩;have M:∀W,q.gb W Lw->ai u r W (.slice base l.length a7) l:=λW h=>b7.kept h;have I:∀W,q.gb W Lw->W.cell? Y=Lq (.slice F c.length D)/\W.cell? ⟨Y,1,Lw⟩=Lq (.int .i64 a):=λW h=>
  ⟨aa (bk h U) rfl,aa (bk h U) rfl⟩
 have⟨s,A,n⟩:=bL G M I;clear G M I;have Q:=Lu (n q (Mf q Lw));obtain⟨gx,x⟩:∃gx,gx=pre Par.mx c c.length:=⟨_,rfl⟩;have N:∀i,0<=gx i/\gx i<=1000:=by rw[x];exact y.mx
 have⟨S,b9⟩:=aS x N;clear x N;have HC:=Lu (show xS c a l=if aV c l<=a then 0 else 10 from rfl);by_cases d:aV c l<=a
 ·have HD:=Lu (show decide (aV c l<=a)=LG by simpa using d);have B:=Lu (HC.t (if_pos d));clear d;go_region_held3 (λv=>v.cell? Y=Lq (.slice F c.length D)/\v.cell? ⟨Y,1,Lw⟩=Lq (.int .i64 a))
   (first | exact Q)
   (first
    | (go_at_call 133;refine(iD u r _ _ c a l _ (s _ (by first | exact b | exact b.t (ak _ _))) (A _ (by first | exact b | exact b.t (ak _ _))) (LN g (by first | exact b.size | exact(b.t (ak _ Lw)).size)) y.len f.ok f.nd (λp C=>by have:=y.out.each p C;omega) f.len).mono ?_;rintro e o ⟨rfl,j⟩;rw[B];replace b:=Lu (show q.gb o Lw by first | exact b.t j | exact(b.t (ak _ _)).t j);replace Q:=Lu (n o b);clear j)
    | (go_at_call 92;refine(kG u r _ c a _ (s _ (by first | exact b | exact b.t (ak _ _))) (LN g (by first | exact b.size | exact(b.t (ak _ Lw)).size)) y.len).mono ?_;rintro e o ⟨rfl,j⟩;rw[<- S];replace b:=Lu (show q.gb o Lw by first | exact b.t j | exact(b.t (ak _ _)).t j);replace Q:=Lu (n o b);clear j)
    | (go_at_call 96;refine(gG u r _ _ c a l _ _ (s _ (by first | exact b | exact b.t (ak _ _))) (A _ (by first | exact b | exact b.t (ak _ _))) (LN g (by first | exact b.size | exact(b.t (ak _ Lw)).size)) y.len f.ok (by have:=f.out.len;omega) b9).mono ?_;rintro e o ⟨rfl,j⟩;replace b:=Lu (show q.gb o Lw by first | exact b.t j | exact(b.t (ak _ _)).t j);replace Q:=Lu (n o b);clear j))
  all_goals
   have HV:=Lu (show aL c (pre Par.mx c c.length) l=aL c gx l by rw[S]);generalize aL c gx l=z at HV ⊢;go_wp2;go_ret;exact⟨by rw[HV,HD];rfl,T.t b⟩
 ·have HD:=Lu (show decide (aV c l<=a)=LH by simpa using d);have B:=Lu (HC.t (if_neg d));clear d;refine bn 11 (λv=>v.cell? Y=Lq (.slice F c.length D)/\v.cell? ⟨Y,1,Lw⟩=Lq (.int .i64 a)) (by kernel_rfl) (by kernel_rfl) Q (λhHeld=>?_);simp only[LX,Mj,Ms,NA,Mn,MF,MG,MZ,Mu,Mk];refine tk 0 (h:=tk 1 (h:=?_));try go_frame
  refine rdc 2 λK hK=>?_;go_simp;go_at_call 133;refine(iD u r _ _ c a l _ (s _ (b.t (ak _ _))) (A _ (b.t (ak _ _))) (LN g (b.t (ak _ Lw)).size) y.len f.ok f.nd (λp C=>by have:=y.out.each p C;omega) f.len).mono ?_;rintro e o ⟨rfl,j⟩;rw[B];have R:=Lu ((b.t (ak _ _)).t j);clear j;refine hK.out _ _ (n o R) (λhHeld=>?_);refine tk 3 (h:=tk 4 (h:=tku 5 (h:=tku 6 (h:=tku 7 (h:=tku 8 (h:=tku 9 (h:=tk 10 (h:=?_))))))));try go_frame
  refine⟨by kernel_rfl,?_⟩;simp only[MQ,Nu];go_wp2;go_ret;exact⟨by rw[HD];rfl,T.t R⟩
def aY(a:Lx Par)(b:LJ)(l:Lx LJ):MC:=decide (aV a l<=b) && aL a (pre Par.mx a a.length) l
def As(f c:Ly)(d qv:LA)(b:Lx Par)(a:LJ)(l:Lx LJ)(w:Lt)(j:dh f c w d b a)(o:ai f c w qv l)(i:c<=w.heap.size)(g:YOk b a)(k:POk b a l) :MH Ya 114 #[d,qv] w λe n=>e=.returned (.bool (aL b (pre Par.mx b b.length) l))/\w.gb n Lw:=by
 have h:=nz f c d qv b a l w j o i g k.pin
 rwa [show decide (aV b l<=a)=LG by simpa using k.tall,Tl] at h
end
section
open Go.RowKit Go.Shelf
attribute [local go_sem] Oper.semAt_some
structure Frm(w3:Lt)(Bl:Ly)(W:Lt):Prop where
 os:W.os=w3.os
 tape:W.tape=w3.tape
 output:W.output=w3.output
 size:w3.heap.size<=W.heap.size
 keep:∀k,k<w3.heap.size->k≠Bl->W.heap[k]?=w3.heap[k]?
def Frm.refl(a:Lt)(b:Ly):Frm a b a:=⟨rfl,rfl,rfl,LC _,λ_ _ _=>rfl⟩
def Frm.stp{b:Lt}{d:Ly}{G:Ly->Prop}{A C:Lt}(h:Frm b d A)(a:Stp b.heap.size d G A C):Frm b d C :=
 ⟨a.os.trans h.os,a.tape.trans h.tape,a.output.trans h.output,LN h.size a.size,λk c e=>(a.keep k (LY c h.size) (.inl ⟨c,e⟩)).t (h.keep k c e)⟩
def Frm.grown{b:Lt}{d:Ly}{A C:Lt}(h:Frm b d A)(a:A.gb C Lw):Frm b d C :=
 ⟨a.os.trans h.os,a.tape.trans h.tape,a.output.trans h.output,LN h.size a.size,λk c e=>(a.block k (LY c h.size) (by simp)).t (h.keep k c e)⟩
def oF{w b C E:Lt}{D:Ly}(a:w.gb b Lw)(o:C.os=b.os/\C.tape=b.tape/\C.output=b.output/\b.heap.size<=C.heap.size/\∀k,k<w.heap.size->C.heap[k]?=b.heap[k]?)(c:C.gb E (Lq D))(f:w.heap.size<=D):w.gb E Lw :=
 ⟨c.os.trans (o.1.t a.os),c.tape.trans (o.2.1.t a.tape),c.output.trans (o.2.2.1.t a.output),LN a.size (LN o.2.2.2.1 c.size),λk d _=>
  (c.block k (LY d (LN a.size o.2.2.2.1)) (by intro e;cases e;omega)).t ((o.2.2.2.2 k d).t (a.block k d (by simp)))⟩
def mW:Ly->Prop:=λ_=>PC
def tZ{d:Lx LJ}(x:Lx LJ × LA)(A:Lt)(l:Ly)(o f:SQ)(h:A.heap[l]?=Lq o)(q:o.isCells=LH)(k:xpO d x A):xpO d x (A.putObj l f):=by
 obtain⟨⟨base,c,e,p,n⟩,r⟩:=k;refine⟨⟨base,c,e,p,λa=>?_⟩,r⟩;have⟨B,j,y,s,w,v,i,b,u⟩:=n a;have g:=Pi A l f;exact⟨B,j,y,s,w,v,LY i g.size,(g.block B i (λe=>by cases e;rw[h] at b;cases b;cases q)).t b,u⟩
def BX(yv qv:LA)(g:Lx Par)(a:LJ)(ll R:Lx LJ)(w:Lt)(q7:dh 0 w.heap.size w yv g a)(hI:ai 0 w.heap.size w qv ll)(q5:YOk g a)(hS:nH ll R)(h5:∀x∈R,0<=x/\x<5)(q6:R.Nodup)(m7:R.length<=5)(q4:∀x:Lx LJ,x.length=R.length->x.Nodup->(∀y∈x,y∈R)->PIn g x) :MH Ya 102 #[yv,qv] w λe w'=>w.gb w' Lw/\((∃x v,(bm R R.length []).find? (aY g a)=Lq x/\e=.returned (.tuple #[v,.bool LG])/\ai w.heap.size w'.heap.size w' v x) \/((bm R R.length []).find? (aY g a)=Lw/\e=.returned (.tuple #[.slice Lw 0 0,.bool LH]))):=by
 obtain⟨pv,rfl,hP⟩:=q7;obtain⟨yb,Z,rfl,x9,-⟩:=hP.cell;obtain⟨base,N,rfl,z6,-⟩:=hI.cell;obtain⟨Y,u⟩:∃Y,Y=w.heap.size:=⟨_,rfl⟩;refine(NM (n:=6)).1 ?_;refine RV Tp.x102 rfl trivial ?_ rfl;simp only[Tryz.ntmps102,Mt,LX,Mj,Ms,NA,MF,MG,MZ,OY,Mu,Mk]
 gi_wp2_with (refine⟨trivial,?_⟩;gi_at_call 117;refine(NM.2 (mh _ _ _ _)).mono ?_;rintro e w2 ⟨rfl,rfl⟩)
 obtain⟨F,r⟩:∃F,F=(((w.alloc (.cells #[.slice yb g.length Z,a] 91)).alloc (.cells #[.slice Lw 0 0] 29)).alloc (.cells #[.bool LH] 4)).alloc (.cells #[.slice base ll.length N] 29):=⟨_,rfl⟩;have e3:(((w.alloc (.cells #[.slice yb g.length Z,a] 91)).alloc (.cells #[.slice Lw 0 0] 29)).alloc (.cells #[.bool LH] 4)).alloc (.cells #[.slice base ll.length N] 29)=F:=r.symm;rw[e3];clear e3;rw[<- u];have S:∀(w:Lt) (o:SQ),(w.alloc o).heap.size=w.heap.size+1:=λw o=>Mc w o;have ha:∀(w:Lt) (o:SQ) (k:Ly) (p:SQ),w.heap[k]?=Lq p->(w.alloc o).heap[k]?=Lq p:=λw o k p h=>aD h;have X:w.gb F Lw:=by
  rw[r];exact(((Lr _ _ Lw).t (Lr _ _ Lw)).t (Lr _ _ Lw)).t (Lr _ _ Lw)
 have q3:F.heap.size=Y+4:=by rw[r,S,S,S,S,u]
 have y3:F.heap[Y]?=Lq (.cells #[.slice yb g.length Z,a] 91 (0,0)):=by rw[r,u];exact ha _ _ _ _ (ha _ _ _ _ (ha _ _ _ _ (LS w _)))
 have r3:F.heap[Y+1]?=Lq (.cells #[.slice Lw 0 0] 29 (0,0)):=by
  rw[r];refine ha _ _ _ _ (ha _ _ _ _ ?_);have:=LS (w.alloc (.cells #[.slice yb g.length Z,a] 91)) (.cells #[.slice Lw 0 0] 29)
  rwa [S,<- u] at this
 have b3:F.heap[Y+2]?=Lq (.cells #[.bool LH] 4 (0,0)):=by
  rw[r];refine ha _ _ _ _ ?_;have:=LS ((w.alloc (.cells #[.slice yb g.length Z,a] 91)).alloc (.cells #[.slice Lw 0 0] 29)) (.cells #[.bool LH] 4)
  rwa [S,S,<- u] at this
 have l3:F.heap[Y+3]?=Lq (.cells #[.slice base ll.length N] 29 (0,0)):=by
  rw[r];have:=LS (((w.alloc (.cells #[.slice yb g.length Z,a] 91)).alloc (.cells #[.slice Lw 0 0] 29)).alloc (.cells #[.bool LH] 4)) (.cells #[.slice base ll.length N] 29)
  rwa [S,S,S,<- u] at this
 have r4:=(hI.kept X).mono (LC _) X.size;have t2:=Lu ((hP.kept X));have⟨n7,p3,s6,A9,n8,c3⟩:=sr r3 b3 y3 q3 X u;clear S ha r hI hP r3 b3 y3 X u;refine eU rfl (by omega) (gf:=149) (lb:=#[.pointer (Lq (Y+3:Ly))]) rfl trivial (enters_of Tp.x149 (by kernel_rfl) rfl)
  (jy 5 (Y+3) base N ll R hS h5 q6 m7 F l3 r4) (RH _ _) (λ_=>rfl) (G0:=mW) (λh=>h) (by omega) (tZ)
  (λpr G W=>(∀x∈pr.map Po,aY g a x=LH)/\G=mW/\Frm F (Y+3) W)
  (λc pr G W=>c=.ret/\∃q x v lo hi,pr.map Po=q++[x]/\(∀y∈q,aY g a y=LH)/\aY g a x=LG/\(W.os=F.os/\W.tape=F.tape/\W.output=F.output/\F.heap.size<=W.heap.size/\∀k,k<Y->W.heap[k]?=F.heap[k]?) /\
   W.heap[Y+1]?=Lq (.cells #[v] 29 (0,0))/\W.heap[Y+2]?=Lq (.cells #[.bool LG] 4 (0,0))/\ai lo hi W v x/\(∀k,lo<=k->k<hi->G k)/\hi<=W.heap.size/\Y<=lo)
  (λs G A h k H=>by rw[h.2.1] at H;exact H.elim)
  (λs G A C h f=>⟨h.1,h.2.1,h.2.2.stp f⟩)
  (λc s G A C h f=>by
   obtain⟨hc,q,x,v,lo,hi,h1,h2,h3,⟨o1,o2,o3,o4,o5⟩,h4,h5,h6,h7,h8,h9⟩:=h;refine⟨hc,q,x,v,lo,hi,h1,h2,h3,⟨f.os.trans o1,f.tape.trans o2,f.output.trans o3,LN o4 f.size,λk H=>(f.keep k (by omega) (.inl ⟨by omega,by omega⟩)).t (o5 k H)⟩,(f.keep _ (aH h4) (.inl ⟨by omega,by omega⟩)).t h4,(f.keep _ (aH h5) (.inl ⟨by omega,by omega⟩)).t h5,?_,h7,LN h8 f.size,h9⟩;obtain⟨b',c',e,hl,hr⟩:=h6;refine⟨b',c',e,hl,λL=>?_⟩;have⟨B,o,cs,fr,e1,e2,e3,e4,e5⟩:=hr L;exact⟨B,o,cs,fr,e1,e2,e3,(f.keep B (by omega) (.inr (h7 B e2 e3))).t e4,e5⟩)
  ⟨by simp,rfl,Frm.refl _ _⟩
  (λx=>{ tmps:=#[.agg #[.slice yb g.length Z,a],.slice base ll.length N,.pointer (Lq Y),LI,.pointer (Lq (Y+1:Ly)),.pointer (Lq (Y+1+1:Ly)),x.2,.slice base ll.length N,.func (.func 149) #[] #[.pointer (Lq (Y+1+1+1:Ly))],x.2,LI,LI,LI,LI,LI],defers:=[] }) ?assign ?body ?done ?stop
 case assign=>
  intro l x W K hK
  gi_wp2
  exact hK
 case body=>
  rintro l pr G x W ⟨U,rfl,b⟩ hx -
  have d7:=(b.keep Y (by omega) (by omega)).t s6;have m6:=(b.keep (Y+1) (by omega) (by omega)).t n7;have n2:=(b.keep (Y+2) (by omega) (by omega)).t p3;have n3:aC 0 W.heap.size W (.slice yb g.length Z) g:=by
   have⟨b',c',e,hl,hr⟩:=t2.out;refine⟨b',c',e,hl,λL=>?_⟩;have⟨B,o,cs,fr,e1,e2,e3,e4,e5⟩:=hr L;have:=c3.out;have:=b.size;exact⟨B,o,cs,fr,e1,e2,by omega,(b.keep B (by omega) (by omega)).t e4,e5⟩
  obtain⟨b0,I⟩:=hx;have T:=q4 x.1 I.1 I.2.1 I.2.2.1;have q2:x.1.length<=5:=by have:=I.1;omega
  obtain⟨Q,x2⟩:=x;obtain⟨xb,xc,m5,-,-⟩:=b0.cell;dsimp only at m5 T q2 I;subst m5;have c1:W.cell? Y=Lq (.slice yb g.length Z):=aa d7 rfl;have c2:W.cell? ⟨Y,1,Lw⟩=Lq (.int .i64 a):=aa d7 rfl;obtain⟨z,hz⟩:∃z,z=aY g a Q:=⟨_,rfl⟩;have m9:MH Ya 114 #[.agg #[.slice yb g.length Z,a],.slice xb Q.length xc] W λe w'=>e=.returned (.bool z)/\W.gb w' Lw:=by
   rw[hz];exact nz 0 W.heap.size _ _ g a Q W ⟨_,rfl,n3⟩ b0 (LC _) q5 T
  have⟨n9,HZ⟩:=aS m9 hz;have s7:=Lu (show ai 0 W.heap.size W (.slice xb Q.length xc) Q from b0);have⟨s8,d,c8,s9,u0⟩:=oC I b U m6 n2;clear m9 hz b0 I b U m6 n2 d7 n3 T;cases z with
  | false=>
   gi_wp2_with (refine⟨trivial,?_⟩;gi_at_call 114;refine(CallsIn.inRound l (NM.2 n9)).mono ?_;rintro e w5 ⟨rfl,M⟩)
   refine⟨mW,⟨M.tape,M.size,λk H _ _=>M.block k H (by simp),λk H=>H.elim⟩,?_,rfl,d.grown M⟩;intro y hy;rw[NJ] at hy;rcases Ob.1 hy with h | h
   ·exact c8 y h
   ·have e:y=Q:=by simpa using h
    rw[e,<- HZ]
  | true=>
   have z2:=d.out.size
   gi_wp2_with (first
    | (refine⟨trivial,?_⟩;gi_at_call 114;refine(CallsIn.inRound l (NM.2 n9)).mono ?_;rintro e w5 ⟨rfl,M⟩;have i:=Lu M;clear M)
    | (refine⟨trivial,?_⟩;gi_at_call 84;refine(CallsIn.inRound l (NM.2 (oK 0 w5.heap.size _ Q w5 ((s7.kept i).mono (LC _) i.size) (LC _) s8.2.2.2 (by omega)))).mono ?_;rintro e w6 ⟨v',rfl,b7,e8⟩;obtain⟨vb,vc,rfl,-,-⟩:=e8.cell;have r6:=bk (i.t b7) s9;have b6:=bk (i.t b7) u0;have s5:=aa (o:=0) r6 rfl;have p7:=aB (o:=0) r6;have s4:=aa (o:=0) b6 rfl;have p6:=aB (o:=0) b6;have P:=Lu b7;have t7:=Lu e8;have t1:=Lu r6;have u5:=Lu b6;clear b7 e8 r6 b6))
   have A7:=i.out.size;have A4:=P.out.size;have e7:=c3.out;obtain⟨C,j⟩:∃C,C=(w6.setCell (Y+1:Ly) (.slice vb Q.length vc)).setCell (Y+2:Ly) (.bool LG):=⟨_,rfl⟩;have eC:(w6.setCell (Y+1:Ly) (.slice vb Q.length vc)).setCell (Y+1+1:Ly) (.bool LG)=C:=j.symm;rw[eC];have O:∀k,k≠Y+1->k≠Y+2->C.heap[k]?=w6.heap[k]?:=λk k1 k2=>by
    rw[j];exact(Nd _ _ _ k (λe=>k2 e)).t (Nd _ _ _ k (λe=>k1 e))
   have cr:C.heap[Y+1]?=Lq (.cells #[.slice vb Q.length vc] 29 (0,0)):=by
    rw[j,Nd _ _ _ (Y+1) (λe=>by have e':Y+1=Y+2:=e;omega),ar t1];rfl
   have cb:C.heap[Y+2]?=Lq (.cells #[.bool LG] 4 (0,0)):=by
    rw[j,ar ((Nd _ _ _ (Y+2) (λe=>by have e':Y+2=Y+1:=e;omega)).t u5)];rfl
   have cs:C.heap.size=w6.heap.size:=by rw[j];simp[NS]
   have n4:∀k,k<W.heap.size->w6.heap[k]?=W.heap[k]?:=λk H=>(P.block k (by omega) (by simp)).t (i.block k H (by simp));refine⟨λk=>w5.heap.size<=k/\k<w6.heap.size,⟨?_,by omega,λk H hn _=>?_,λk H=>.inr (by have:=H.1;omega)⟩,rfl,pr.map Po,Q,.slice vb Q.length vc,w5.heap.size,w6.heap.size,by simp,c8,HZ.symm,⟨?_,?_,?_,by omega,λk H=>?_⟩,cr,cb,?_,λk h1 h2=>⟨h1,h2⟩,by omega,by omega⟩
   ·rw[j];exact P.tape.trans i.tape
   ·rw[O k (by omega) (by omega)];exact n4 k H
   ·rw[j];exact(P.os.trans i.os).t d.os
   ·rw[j];exact(P.tape.trans i.tape).t d.tape
   ·rw[j];exact(P.output.trans i.output).t d.output
   ·rw[O k (by omega) (by omega),n4 k (by omega)];exact d.keep k (by omega) (by omega)
   ·have⟨b',c',e,hl,hr⟩:=t7.out;refine⟨b',c',e,hl,λL=>?_⟩;have⟨B,o,g8,fr,e1,e2,e3,e4,e5⟩:=hr L;exact⟨B,o,g8,fr,e1,e2,e3,(O B (by omega) (by omega)).t e4,e5⟩
 case done=>
  rintro D ys G W hD q1 ⟨U,rfl,b⟩ hK r7;have r6:=(b.keep (Y+1) (by omega) (by omega)).t n7;have b6:=(b.keep (Y+2) (by omega) (by omega)).t p3;have s5:=aa (o:=0) r6 rfl;have p7:=aB (o:=0) r6;have s4:=aa (o:=0) b6 rfl;have p6:=aB (o:=0) b6;have⟨d,c8⟩:=aS b U;clear b U
  gi_wp2
  have e7:=c3.out;obtain⟨C,j⟩:∃C,C=(W.setCell (Y+1:Ly) (.slice Lw 0 0)).setCell (Y+2:Ly) (.bool LH):=⟨_,rfl⟩;have eC:(W.setCell (Y+1:Ly) (.slice Lw 0 0)).setCell (Y+1+1:Ly) (.bool LH)=C:=j.symm;rw[eC];have O:∀k,k≠Y+1->k≠Y+2->C.heap[k]?=W.heap[k]?:=λk k1 k2=>by
   rw[j];exact(Nd _ _ _ k (λe=>k2 e)).t (Nd _ _ _ k (λe=>k1 e))
  have cr:C.heap[Y+1]?=Lq (.cells #[.slice Lw 0 0] 29 (0,0)):=by
   rw[j,Nd _ _ _ (Y+1) (λe=>by have e':Y+1=Y+2:=e;omega),ar r6];rfl
  have cb:C.heap[Y+2]?=Lq (.cells #[.bool LH] 4 (0,0)):=by
   rw[j,ar ((Nd _ _ _ (Y+2) (λe=>by have e':Y+2=Y+1:=e;omega)).t b6)];rfl
  have q9:C.heap[D]?=Lq (.deferred (Lq [])):=(O D (by omega) (by omega)).t hK;have hg:=Pi C D (.deferred Lw);have er:=(hg.block (Y+1) (aH cr) (by simp;omega)).t cr;have eb:=(hg.block (Y+2) (aH cb) (by simp;omega)).t cb;have cs:C.heap.size=W.heap.size:=by rw[j];simp[NS]
  have z7:=d.out.size;refine⟨by simp,.inl ⟨_,_,rfl,RS q9,?_⟩⟩;refine⟨.tuple #[.slice Lw 0 0,.bool LH],by simp[Om,WK,go_sem,Mz,er,eb],?_,.inr ⟨?_,rfl⟩⟩
  ·refine oF n8 ⟨by rw[j];exact d.os,by rw[j];exact d.tape,by rw[j];exact d.output,by omega,λk H=>?_⟩ hg (by omega);rw[O k (by omega) (by omega)];exact d.keep k (by omega) (by omega)
  ·rw[<- q1];exact Qt.2 λy hy=>by rw[c8 y hy];simp
 case stop=>
  rintro D c pr G W hD ⟨t,ht⟩ ⟨rfl,h⟩ hK r7;obtain⟨q,x,v,lo,hi,h1,h2,h3,ho,cr,cb,m8,-,h8,h9⟩:=h;have e7:=c3.out;have hg:=Pi W D (.deferred Lw);have er:=(hg.block (Y+1) (aH cr) (by simp;omega)).t cr;have eb:=(hg.block (Y+2) (aH cb) (by simp;omega)).t cb;have V:ai w.heap.size (W.putObj D (.deferred Lw)).heap.size (W.putObj D (.deferred Lw)) v x:=by
   obtain⟨b',c',e,hl,hr⟩:=m8;refine⟨b',c',e,hl,λL=>?_⟩;have⟨B,o,g8,fr,e1,e2,e3,e4,e5⟩:=hr L;exact⟨B,o,g8,fr,e1,by omega,LY e3 (LN h8 hg.size),(hg.block B (by omega) (λe=>by cases e;rw[hK] at e4;cases e4)).t e4,e5⟩
  obtain⟨vb,vc,rfl,-,-⟩:=V.cell;have⟨t6,HO⟩:=aS V ho;have HH:=Lu (Mm h1 (Mm h2 h3));have HT:=Lu ht;clear m8 V ho h1 h2 h3 ht
  gi_wp2
  refine⟨by simp,.inl ⟨_,_,rfl,RS hK,?_⟩⟩;refine⟨.tuple #[.slice vb x.length vc,.bool LG],by simp[Om,WK,go_sem,Mz,er,eb],?_,.inl ⟨x,_,?_,rfl,t6⟩⟩
  ·exact oF n8 (by rw[<- e7];exact HO) hg (by omega)
  ·rw[HT,HH.1,OE];rw[List.find?_append,Qt.2 (λy hy=>by rw[HH.2.1 y hy];simp)];simp[HH.out.2.2]
end
section
open Go.RowKit
def dM{n:Ly}{x:LJ}(h:x∈aJ n):0<=x/\x<n:=by
 simp only[aJ,Nt,Nj] at h;obtain⟨i,a,rfl⟩:=h;omega
def bE(n:Ly):(aJ n).Pairwise (·<·):=by
 unfold aJ;rw[Qc];exact List.pairwise_lt_range.imp λh=>by omega
def cD{l:Lx LJ}(h:l.Pairwise (·<·)):l.Nodup:=h.imp λh=>by omega
def iS{l:Lx LJ}(a:l.length<=12)(h:l.Pairwise (·<·)):nH l l:=Ba a λi b=>by
 rw[LO (by omega),LO b];exact Int.le_of_lt (PN.1 h i (i+1) (by omega) b (by omega))
def bV(c:Lx LJ):Lx (Lx LJ):=bm c c.length []
def jR(d:Lx Par)(a:LJ)(b:MC × Lx LJ)(c:Lx LJ):MC × Lx LJ :=
 match (bV c).find? (aY d a) with
 | some p=>(LG,if b.1=LG/\lI p b.2=LH then b.2 else p)
 | none=>b
def dN(b:Lx Par)(a:LJ)(L:Lx (Lx LJ)):MC × Lx LJ:=L.foldl (jR b a) (LH,[])
def jA(b:Lx Par)(a:LJ)(L:Lx (Lx LJ))(c:Lx LJ):dN b a (L++[c])=jR b a (dN b a L) c:=by simp[dN]
def AH(b:Lx Par)(a:LJ)(B:Ly)(w0:Lt)(done:Lx (Lx LJ))(G:Ly->Prop)(W:Lt):Prop :=
 G=mW/\w0.gb W (Lq B)/\∃c,W.heap[B]?=Lq (.cells #[.func (.func 98) #[] #[],c,.bool (dN b a done).1] 108 (0,0))/\ai 0 W.heap.size W c (dN b a done).2
def ai.keptT{f g O:Ly}{w d:Lt}{v:LA}{l:Lx LJ}(h:ai f g w v l)(r:w.gb d (Lq O)){b:LM LA}{k:LZ}{t:Ly × Ly}(i:w.heap[O]?=Lq (.cells b k t))(a:k≠3):ai f g d v l:=by
 obtain⟨base,c,rfl,q,n⟩:=h;refine⟨base,c,rfl,q,λp=>?_⟩;have⟨B,o,A,s,z,y,x,j,u⟩:=n p;refine⟨B,o,A,s,z,y,x,blk r (λe=>?_) j,u⟩;cases e;rw[j] at i;cases i;exact a rfl
def BB(b:Lx Par)(a:LJ)(Y B:Ly)(w0:Lt)(w:LU MN)(u:Ly)(G:w0.heap[Y]?=Lq (.cells #[.slice w b.length u,a] 91 (0,0)))(a7:aC 0 w0.heap.size w0 (.slice w b.length u) b){a8:LM LA}{f0:Ly × Ly}(M:w0.heap[B]?=Lq (.cells a8 108 f0))(C:YOk b a)(c:Lx LJ)(A:c.Pairwise (·<·))(D:∀x∈c,0<=x/\x<b.length)(Z:c.length<=5)(a6:Y≠B)(done:Lx (Lx LJ))(W:Lt)(hI:AH b a B w0 done mW W)(v:LA)(U:ai 0 W.heap.size W v c) :MH Ya 101 #[v,.pointer (Lq Y),.pointer (Lq B)] W λe W'=>e=.returned (.bool LH)/\AH b a B w0 (done++[c]) mW W'/\W.gb W' (Lq B):=by
 obtain⟨-,h,R,hB,F⟩:=hI;obtain⟨vb,vc,rfl,-,-⟩:=U.cell;have n:W.heap[Y]?=Lq (.cells #[.slice w b.length u,a] 91 (0,0)):=(h.block Y (aH G) (λe=>a6 (by cases e;rfl))).t G;have H:aC 0 W.heap.size W (.slice w b.length u) b:=by
  obtain⟨b',c',e,hl,hr⟩:=a7;refine⟨b',c',e,hl,λX=>?_⟩;have⟨B',o,cs,fr,e1,e2,e3,e4,e5⟩:=hr X;cases e;exact⟨B',o,cs,fr,e1,e2,LY e3 h.size,(h.block B' e3 (λe'=>by cases e';rw[e4] at M;cases M)).t e4,e5⟩
 have c0:W.cell? Y=Lq (.slice w b.length u):=aa n rfl;have c1:W.cell? ⟨Y,1,Lw⟩=Lq (.int .i64 a):=aa n rfl;have k:=BX (.agg #[.slice w b.length u,a]) (.slice vb c.length vc) b a c c W ⟨_,rfl,H⟩ U C (iS (by omega) A) (λx i=>by have:=D x i;have:=C.len;omega) (cD A) Z (λx hl hn i=>⟨λy hy=>D y (i y hy),hn,by omega⟩);have⟨S,T,r,O⟩:=dD k hB F h;clear k hB F h n H U;cases hfd:(bm c c.length []).find? (aY b a) with
 | none=>
  rw[hfd] at S;have q:=Lu hfd;clear hfd;go_enter Tp.x101,Xy;go_wp2_with (go_at_call 102;refine(S).mono ?_;rintro e w2 ⟨d,⟨x,P,i,-⟩ | ⟨-,rfl⟩⟩;cases i);go_ret;have g:jR b a (dN b a done) c=dN b a done:=by unfold jR;rw[show(bV c).find? _=Lw from q]
  exact⟨rfl,⟨rfl,O.andThen d (by simp),R,by rw[jA,g];exact bk d T,by rw[jA,g];exact(r.kept d).mono (LC _) d.size⟩,(Mf _ _).andThen d (by simp)⟩
 | some p=>
  rw[hfd] at S;have q:=Lu hfd;clear hfd;obtain⟨s,V⟩:∃s,s=(dN b a done).1:=⟨_,rfl⟩;rw[<- V] at T;have HS:=Lu V;clear V;go_enter Tp.x101,Xy;go_wp2_with (first
   | (go_at_call 102;refine(S).mono ?_;rintro e w2 ⟨d,⟨x,P,i,rfl,I⟩ | ⟨i,-⟩⟩<;>cases i;have f:=Lu d;have N:=Lu I;clear d I)
   | (go_at_call 103;refine(CW B s R P (dN b a done).2 p w2 (bk f T) ((r.kept f).mono (LC _) f.size) (N.mono (Mw _) (LC _))).mono ?_;rintro e l ⟨rfl,hT⟩;have z:=Lu hT;clear hT))
  go_ret;have g:jR b a (dN b a done) c=(LG,if s=LG/\lI p (dN b a done).2=LH then(dN b a done).2 else p):=by unfold jR;rw[show(bV c).find? _=Lq p from q,HS]
  have L:=bk f T;have i:=r.out.kept f;have gW:W.gb l (Lq B):=(((Mf W (Lq B)).andThen f (by simp))).andThen z.1 (λj e=>.inr e);have h3:ai 0 l.heap.size l (if s=LG/\lI p (dN b a done).2=LH then R else P) (if s=LG/\lI p (dN b a done).2=LH then(dN b a done).2 else p):=by
   have t1:ai 0 l.heap.size l R (dN b a done).2:=(i.keptT z.1 L (by decide)).mono (LC _) (LN f.size z.1.size);have t2:ai 0 l.heap.size l P p:=(N.keptT z.1 L (by decide)).mono (Mw _) z.1.size;by_cases Q:s=LG/\lI p (dN b a done).2=LH
   ·rw[if_pos Q,if_pos Q];exact t1
   ·rw[if_neg Q,if_neg Q];exact t2
  exact⟨rfl,⟨rfl,O.andThen gW (λj e=>.inr e),_,by rw[jA,g];exact z.2,by rw[jA,g];exact h3⟩,gW⟩
def POk.nil(b:Lx Par){a:LJ}(h:1<=a):POk b a []:=⟨by simp,List.nodup_nil,by simp[aV];omega,by simp⟩
def zU{n:Ly}{c:Lx LJ}(h:c.Sublist (aJ n)):c.Pairwise (·<·)/\(∀x∈c,0<=x/\x<n)/\c.length<=n :=
 ⟨(bE n).sublist h,λx a=>dM (h.subset a),by have:=h.length_le;rwa [bw] at this⟩
def Gv{d:Lx Par}{a:LJ}{Y B:Ly}{w0:Lt}{l:LU MN}{j:Ly}(o:w0.heap[Y]?=Lq (.cells #[.slice l d.length j,a] 91 (0,0)))(p:aC 0 w0.heap.size w0 (.slice l d.length j) d){u:LM LA}{D:Ly × Ly}(i:w0.heap[B]?=Lq (.cells u 108 D))(g:YOk d a)(n:Y≠B) :Cb w0.heap.size (aJ d.length) 101 #[.pointer (Lq Y),.pointer (Lq B)] (AH d a B w0):=by
 refine⟨?_,?_,enters_of Tp.x101 (by kernel_rfl) rfl,?_⟩
 ·rintro s G A C ⟨rfl,t,F,r,x⟩ b;exact⟨rfl,t.andThen b (by simp),F,bk b r,(x.kept b).mono (LC _) b.size⟩
 ·rintro s G A ⟨rfl,-⟩ k h;exact h.elim
 ·rintro done G W v c w y - f -
  have⟨t,r,x⟩:=zU f;obtain rfl:=w.1;refine(BB d a Y B w0 l j o p i g c t r (by have:=g.len;omega) n done W w v y).mono ?_;rintro e I ⟨rfl,q,b⟩;have z:=aH i;exact⟨rfl,mW,q,b.tape,b.size,λk h H _=>b.block k h (λe=>by cases e;omega),λk h=>h.elim⟩
def Eg{a:Lx Par}{d:LJ}{Y B:Ly}{w0:Lt}{n:LU MN}{l:Ly}(i:w0.heap[Y]?=Lq (.cells #[.slice n a.length l,d] 91 (0,0)))(j:aC 0 w0.heap.size w0 (.slice n a.length l) a)(f:YOk a d)(g:Y≠B)(o:w0.heap[B]?=Lq (.cells #[.func (.func 98) #[] #[],.slice Lw 0 0,.bool LH] 108 (0,0))){b:LU MN}{k:Ly}(r:ai 0 w0.heap.size w0 (.slice b a.length k) (aJ a.length)) :MH Ya 82 #[.slice b a.length k,.func (.func 101) #[] #[.pointer (Lq Y),.pointer (Lq B)]] w0 λe p=>e=.returned (.bool LH)/\AH a d B w0 (cy (aJ a.length) 0) mW p:=by
 have s:a.length<=5:=f.len;have h:=JL (b:=b) (c:=k) (ll:=aJ a.length) (Gv i j o f g) (by rw[bw];omega) (iS (by rw[bw];omega) (bE _)) (by rw[bw];exact r) (G:=mW) ⟨rfl,Mf _ _,_,o,ai.nil _ _ _⟩;rw[bw] at h;refine h.mono ?_;rintro e p ⟨q,t,h⟩;obtain rfl:=h.1;exact⟨q,h⟩
def wT(pv:LA)(c:Lx Par)(b:LJ)(w:Lt)(Q:aC 0 w.heap.size w pv c)(z:YOk c b) :MH Ya 44 #[.agg #[pv,b]] w λe O=>∃v,e=.returned (.tuple #[v,.int .i64 0])/\w.gb O Lw/\ai 0 O.heap.size O v (dN c b (cy (aJ c.length) 0)).2:=by
 obtain⟨N,M,rfl,b7,-⟩:=Q.cell;have⟨HP,i⟩:=aS Q z;clear Q z;go_enter Tp.x44,Tryz.ntmps44;go_upto_region 4 with(go_at_call 81;refine(fA 0 w.heap.size _ _ c b [] _ (HP.kept (Lr _ _ Lw)) (ai.nil _ _ _) (by simp) i (POk.nil c i.l1)).mono ?_;rintro e w2 ⟨rfl,G⟩;have X:=Lu ((Lr w (.cells #[.slice N c.length M,b] 24) Lw).t G);clear G);obtain⟨Y,k⟩:∃Y,Y=w2.heap.size:=⟨_,rfl⟩;obtain⟨j,g⟩:∃j,j=w2.alloc (.cells #[.slice N c.length M,b] 91):=⟨_,rfl⟩;rw[<- k,<- g];have C:j.heap[Y]?=Lq (.cells #[.slice N c.length M,b] 91 (0,0)):=by rw[g,k];exact LS _ _
 have F:w.gb j Lw:=X.out.t (by rw[g];exact Lr _ _ Lw);have⟨r,L⟩:=aS C F;clear k g C F;have b8:∀(a:MN) (R:Fn) (x y:LM LA) (m:Mode) (w:Lt),(store a (.func R x y) m).run Ya w=stored Ya w a (.func R x y) m:=λa R x y m w=>run_store _ w a _ m rfl;go_upto_region 5 with(fail);obtain⟨B,q⟩:∃B,B=j.heap.size:=⟨_,rfl⟩;obtain⟨u,f⟩:∃u,u=j.alloc (.cells #[.func (.func 98) #[] #[],.slice Lw 0 0,.bool LH] 108):=⟨_,rfl⟩;rw[<- q,<- f];have I:u.heap[B]?=Lq (.cells #[.func (.func 98) #[] #[],.slice Lw 0 0,.bool LH] 108 (0,0)):=by rw[f,q];exact LS _ _
 have p:j.gb u Lw:=by rw[f];exact Lr _ _ Lw
 have h:=bk p r;have P:w.heap.size<=B:=by have:=L.out.size;omega
 have⟨Z,T⟩:=aS I h;have s:=Lu (L.t p);have S:=Lu (show Y≠B by have:=aH r;omega);have c0:=aa h (o:=0) rfl;have c1:=aa h (o:=1) rfl;clear q f I p h r;have hn:c.length<=1000:=by have:=i.out.len;omega
 go_upto_region 6 with(first
  | (go_at_call 100;refine(ea N c.length M b u hn).mono ?_;rintro e w5 ⟨v5,rfl,D,n⟩;obtain⟨b5,k5,e5,-,-⟩:=n.cell;rw[bw] at e5;subst e5;have d:=Lu D;have V:=Lu n;clear D n)
  | (go_at_call 82;refine(Eg (bk d T) ((HP.kept (s.t d)).mono (LC _) (s.t d).size) i S (bk d Z) (V.mono (Mw _) (LC _))).mono ?_;rintro e w6 ⟨rfl,-,A,bv,H,l⟩;obtain⟨b6,k6,rfl,-,-⟩:=l.cell;have c6:=aa H (o:=1) rfl;have U:=Lu l;have W:=Lu A;clear l A H))
 go_wp2;go_ret2;exact⟨_,rfl,jV (s.t d) W P,U⟩
end
section
open Go.RowKit
def kR(lo hi B o:Ly)(w:Lt)(L:Lx (Lx LJ)):Prop :=
 ∃a,w.heap[B]?=Lq (.cells a 29 (0,0))/\∀i,i<L.length->∃l x,L[i]?=Lq l/\a[o+i]?=Lq x/\ai lo hi w x l
section
variable{lo hi B o:Ly}{w w':Lt}{L:Lx (Lx LJ)}
end
end
section
open Go.RowKit
def nW(z G:Ly)(v:LA)(l:Lx LJ)(w:Lt)(q:ai z G w v l)(r:∀x∈l,0<=x/\x<5) :MH Ya 123 #[v] w λe t=>e=.returned (.int .u8 (aP l:Ly))/\w=t:=by
 obtain⟨b,c,rfl,F,p⟩:=q.cell;have⟨N,s⟩:=aS p r;clear p r q;go_enter Tp.x123,Tryz.ntmps123;go_wp2;go_loopw [3,9] (λu g wr=>∃k:Ly,g=.int .i64 k/\u=.int .u8 (aP (l.take k):Ly)/\k<=l.length/\w=wr) (λ_ g _=>(l.length - intOf g).toNat)
 case atStart=>exact⟨0,rfl,rfl,by omega,rfl⟩
 case round=>
  obtain⟨k,rfl,rfl,P,rfl⟩:=hrel;by_cases a:k<l.length
  ·obtain⟨B,o,rfl,L,I,H,d⟩:=N.out (by intro e;rw[e] at a;simp at a);obtain⟨x,f⟩:∃x,l[k]?=Lq x:=⟨_,LO a⟩;have i:=d k a;rw[f] at i;simp only[LQ] at i;have⟨D,C⟩:=s.out x (Mh f);obtain⟨n,rfl⟩:∃n:Ly,x=(n:LJ):=⟨x.toNat,by omega⟩;have hm:aP (l.take k)<32:=ir _ 5 λy A=>by have:=s.out y (QD A);omega
   have h:=ox l k n f;have j:(k:LJ)<(l.length:LJ):=by omega
   generalize aP (l.take k)=m at hm h ⊢;have M:=Lu h;clear h d f;go_wp2_with (go_at_call 151;refine(mE m n _ hm (by omega)).mono ?_;rintro e O ⟨rfl,rfl⟩);go_roundw
   case rel=>exact⟨k+1,by simp,by rw[M,Pe],by omega,by first | rfl | trivial⟩
   case measure=>simp[intOf];omega
  ·obtain rfl:k=l.length:=by omega
   go_wp2;go_ret;exact⟨by rw[NH];rfl,by first | rfl | trivial⟩
end
section
open Go.RowKit Go.Shelf
attribute [local go_sem] Oper.semAt_some
def tg(b:Lx Par)(a:LJ)(c:Lx LJ):Lx (Lx LJ):=(bV c).filter λo=>!o.isEmpty && aY b a o
def dY(b:Lx Par)(a:LJ)(L:Lx (Lx LJ)):Lx (Lx LJ):=L.flatMap (tg b a)
def yM(b:Lx Par)(a:LJ)(L:Lx (Lx LJ))(c:Lx LJ):dY b a (L++[c])=dY b a L++tg b a c:=by simp[dY]
def Ir(b:Ly)(L:Lx (Lx LJ))(a:Lx LA)(G:Ly->Prop)(W:Lt):Prop :=
 ∀i,i<L.length->∃l x,L[i]?=Lq l/\a[i]?=Lq x/\ai b W.heap.size W x l/\∀B o n c,x=.slice (Lq ⟨B,o,Lw⟩) n c->l≠[]->G B
structure mD(Sg:Ly)(w0:Lt)(L:Lx (Lx LJ))(G:Ly->Prop)(W:Lt):Prop where
 os:W.os=w0.os
 tape:W.tape=w0.tape
 output:W.output=w0.output
 size:w0.heap.size<=W.heap.size
 keep:∀k,k<w0.heap.size->k≠Sg->W.heap[k]?=w0.heap[k]?
 lt:∀k,G k->w0.heap.size<=k/\k<W.heap.size
 sl:Sg<w0.heap.size
 sg:∃sv vals,W.heap[Sg]?=Lq (.cells #[sv] 36 (0,0))/\W.ownsRow w0.heap.size 29 1 sv L.length vals/\(∀g,sv.ownBlock=Lq g->G g)/\Ir w0.heap.size L vals G W
def tK{d:Ly}{A C:Lt}{x:LA}{l:Lx LJ}(h:ai d A.heap.size A x l)(s:A.heap.size<=C.heap.size)(i:∀B o n c,x=.slice (Lq ⟨B,o,Lw⟩) n c->l≠[]->C.heap[B]?=A.heap[B]?):ai d C.heap.size C x l:=by
 obtain⟨base,b,rfl,g,f⟩:=h;refine⟨base,b,rfl,g,λa=>?_⟩;have⟨B,o,r,j,e,q,u,p,k⟩:=f a;exact⟨B,o,r,j,e,q,by omega,(i B o _ _ (by rw[e]) a).t p,k⟩
def dZ{i e f:Ly}{A C:Lt}{v:LA}{n:Ly}{d:Lx LA}(h:A.ownsRow i e f v n d)(k:∀g,v.ownBlock=Lq g->C.heap[g]?=A.heap[g]?):C.ownsRow i e f v n d:=by
 obtain⟨p,a⟩:=h;refine⟨p,?_⟩;rcases a with a | ⟨g,c,b,rfl,o,l,j⟩
 ·exact .inl a
 ·exact .inr ⟨g,c,b,rfl,o,(k g (by simp[MP])).t l,j⟩
def nQ{n1 B:Ly}{G:Ly->Prop}{A C:Lt}(a:A.gb C Lw):Stp n1 B G A C:=⟨a.os,a.tape,a.output,a.size,λk b _=>a.block k b (by simp)⟩
def mD.stp{u:Ly}{w0:Lt}{L:Lx (Lx LJ)}{G:Ly->Prop}{A C:Lt}{v B:Ly}(h:mD u w0 L G A)(b:Stp v B G A C)(P:w0.heap.size<=v)(Q:w0.heap.size<=B):mD u w0 L G C:=by
 have f:=h.sl;have z:=h.size;have p:=b.size;have q:∀k,k<w0.heap.size->C.heap[k]?=A.heap[k]?:=λk q=>b.keep k (by omega) (.inl ⟨by omega,by omega⟩);have⟨y,d,I,H,r,F⟩:=h.sg;refine⟨b.os.trans h.os,b.tape.trans h.tape,b.output.trans h.output,by omega,λk j a=>(q k j).t (h.keep k j a),λk w=>⟨(h.lt k w).1,by have:=(h.lt k w).2;omega⟩,f,y,d,(q u f).t I,dZ H λg e=>b.keep g (h.lt g (r g e)).2 (.inr (r g e)),r,λi D=>?_⟩;have⟨l,x,O,N,M,s⟩:=F i D;exact⟨l,x,O,N,tK M p λB o n c e a=>b.keep B (h.lt B (s B o n c e a)).2 (.inr (s B o n c e a)),s⟩
def mD.push{j:Ly}{w0:Lt}{L:Lx (Lx LJ)}{G:Ly->Prop}{W E C:Lt}{q r:LA}{b:Lx LA}{x:LA}{l:Lx LJ}(h:mD j w0 L G W)(h1:W.heap[j]?=Lq (.cells #[q] 36 (0,0)))(h2:W.ownsRow w0.heap.size 29 1 q L.length b)(M:∀g,q.ownBlock=Lq g->G g)(h4:Ir w0.heap.size L b G W)(v:W.gb E q.ownBlock)(F:E.ownsRow w0.heap.size 29 1 r (L.length+1) (b++[x]))(hv:∀g,r.ownBlock=Lq g->q.ownBlock=Lq g\/W.heap.size<=g)(z:∀g,r.ownBlock=Lq g->g<E.heap.size)(hx:ai W.heap.size E.heap.size E x l)(X:C=E.setCell j r) :mD j w0 (L++[l]) (λk=>G k\/(W.heap.size<=k/\k<C.heap.size)) C/\∀n B,j<n->j≠B->Bod n B G (λk=>G k\/(W.heap.size<=k/\k<C.heap.size)) W C:=by
 have h5:b.length=L.length:=by have:=h2.1;omega
 have s:∀y m g,q.ownBlock=Lq g->ai w0.heap.size W.heap.size W y m->∀B o n c,y=.slice (Lq ⟨B,o,Lw⟩) n c->m≠[]->B≠g:=by
  rintro y m g f ⟨base,cap,rfl,R,D⟩ B o n c e a rfl;have⟨B',o',cs,Y,w,O,N,p,Z⟩:=D a;cases e;cases w;rcases h2.2 with⟨rfl,_⟩ | ⟨g',b6,d8,rfl,hb,T,_⟩
  ·simp[MP] at f
  ·obtain rfl:g'=B:=by simpa[MP] using f
   rw[T] at p;cases p
 have Q:=h.sl;have b8:=h.size;have c3:=v.size;have d:=an E j 0 r;rw[<- X] at d;have c8:C.heap.size=E.heap.size:=by rw[X];simp[NS]
 have V:E.heap[j]?=Lq (.cells #[q] 36 (0,0)):=(v.block j (by omega) (λe=>by have:=(h.lt _ (M _ e.symm)).1;omega)).t h1;have U:C.heap[j]?=Lq (.cells #[r] 36 (0,0)):=by rw[X,ar V];rfl
 have H:∀k,k<W.heap.size->k≠j->q.ownBlock≠Lq k->C.heap[k]?=W.heap[k]?:=λk H a s=>(d.block k (by omega) (by intro e;cases e;exact a rfl)).t (v.block k H (λe=>s e.symm));refine⟨⟨d.os.trans (v.os.trans h.os),d.tape.trans (v.tape.trans h.tape),d.output.trans (v.output.trans h.output),by omega,λk u a=>?_,λk f=>?_,Q,r,b++[x],U,?_,λg e=>?_,λi hi=>?_⟩,λn B hn hB=>⟨d.tape.trans v.tape,by omega,λk u hc f=>?_,λk f=>f.imp id λe=>e.1⟩⟩
 ·rw[H k (by omega) a (λe=>by have:=(h.lt _ (M _ e)).1;omega)];exact h.keep k u a
 ·rcases f with f | f
  ·exact⟨(h.lt k f).1,by have:=(h.lt k f).2;omega⟩
  ·omega
 ·rw[Na,SV];exact dZ F λg e=>d.block g (z g e) (by
   intro P;cases P;rcases hv _ e with h' | h'
   ·have:=(h.lt _ (M _ h')).1;omega
   ·omega)
 ·rcases hv g e with h' | h'
  ·exact .inl (M g h')
  ·exact .inr ⟨h',by have:=z g e;omega⟩
 ·by_cases I:i<L.length
  ·have⟨m,y,w,O,N,p⟩:=h4 i I;refine⟨m,y,by rw[Mv I];exact w,by rw[Mv (by omega)];exact O,tK N (by omega) λB o n c e a=>H B (h.lt B (p B o n c e a)).2 (λP=>by have:=(h.lt B (p B o n c e a)).1;omega) (λP=>s y m _ P N B o n c e a rfl),λB o n c e a=>.inl (p B o n c e a)⟩
  ·have S:i=L.length:=by simp at hi;omega
   subst S;refine⟨l,x,by simp,by rw[<- h5];simp,?_,λB o n c e a=>.inr ?_⟩
   ·obtain⟨base,cap,rfl,R,D⟩:=hx;refine⟨base,cap,rfl,R,λa=>?_⟩;have⟨B,o,cs,Y,w,O,N,p,Z⟩:=D a;exact⟨B,o,cs,Y,w,by omega,by omega,(d.block B (by omega) (by intro e;cases e;omega)).t p,Z⟩
   ·obtain⟨base,cap,rfl,R,D⟩:=hx;have⟨B',o',cs,Y,w,O,N,p,Z⟩:=D a;cases e;cases w;omega
 ·refine H k u (λe=>by rcases hc with h' | h'<;>omega) (λe=>f (M k e))
end
section
open Go.RowKit Go.Shelf
attribute [local go_sem] Oper.semAt_some
def Tp.info29p:(Ya.info? 29).map (λi=>(i.zero,i.size,i.bytes))=Lq (Lq (.slice Lw 0 0),1,24):=by kernel_rfl
def Tp.und36:Ya.underlying 36=Lq (.slice 29):=by rw[Tp.und];exact Tryz.underlying36
def ED(q:Lx Par)(f:LJ)(Y j:Ly)(w0:Lt)(yb:LU MN)(yc:Ly)(X:w0.heap[Y]?=Lq (.cells #[.slice yb q.length yc,f] 91 (0,0)))(r9:aC 0 w0.heap.size w0 (.slice yb q.length yc) q){s4:LM LA}{f0:Ly × Ly}(d7:w0.heap[j]?=Lq (.cells s4 36 f0))(k8:YOk q f)(c:Lx LJ)(k6:c.Pairwise (·<·))(r5:∀x∈c,0<=x/\x<q.length)(r6:c.length<=5)(q6:∀x:Lx LJ,x.length=c.length->x.Nodup->(∀y∈x,y∈c)->PIn q x)(L0:Lx (Lx LJ))(hL:L0.length+(bV c).length<=1000)(G0:Ly->Prop)(S:Lt)(hI:mD j w0 L0 G0 S)(v:LA)(hv:ai 0 S.heap.size S v c) :MH Ya 120 #[v,.pointer (Lq Y),.pointer (Lq j)] S λe W'=>e=.returned (.bool LH)/\∃G',mD j w0 (L0++tg q f c) G' W'/\Bod w0.heap.size w0.heap.size G0 G' S W':=by
 have⟨i0,r3,p4,p3,n9⟩:=Pd Tp.info29p;obtain⟨base,Q,rfl,A3,-⟩:=hv.cell;have r8:Y≠j:=λe=>by rw[e,d7] at X;cases X
 obtain⟨gx,c9⟩:∃gx,gx=aY q f:=⟨_,rfl⟩;obtain⟨F,P⟩:∃F,F=S.heap.size:=⟨_,rfl⟩;have q5:tg q f c=(bV c).filter λo=>!o.isEmpty && gx o:=by rw[c9];rfl
 rw[q5];have z1:=hI.size;refine(NM (n:=6)).1 ?_;refine RV Tp.x120 rfl trivial ?_ rfl;simp only[Tryz.ntmps120,Mt,LX,Mj,Ms,NA,MF,MG,MZ,OY,Mu,Mk]
 gi_wp2_with (refine⟨trivial,?_⟩;gi_at_call 117;refine(NM.2 (mh _ _ _ _)).mono ?_;rintro e w2 ⟨rfl,rfl⟩)
 obtain⟨U,H⟩:∃U,U=S.alloc (.cells #[.slice base c.length Q] 29):=⟨_,rfl⟩;rw[<- H,<- P];have N:S.gb U Lw:=by rw[H];exact Lr _ _ Lw
 have z6:U.heap.size=F+1:=by rw[H,Mc,P]
 have l3:U.heap[F]?=Lq (.cells #[.slice base c.length Q] 29 (0,0)):=by rw[H,P];exact LS _ _
 have s1:=(hv.kept N).mono (LC _) N.size;have w8:=hI.sl;have s2:mD j w0 L0 G0 U:=hI.stp (nQ (n1:=w0.heap.size) (B:=w0.heap.size) N) (LC _) (LC _);have q9:¬ G0 F:=λh=>by have:=(hI.lt _ h).2;omega
 have v8:w0.heap.size<=F:=by omega
 have v7:S.heap.size<=F:=by omega
 have⟨u5,a6,HI,u7,HL⟩:=oC c9 P hI N hL;clear c9 P H hv N hL;refine eU rfl (by omega) (gf:=149) (lb:=#[.pointer (Lq F)]) rfl trivial (enters_of Tp.x149 (by kernel_rfl) rfl)
  (jy 5 F base Q c c (iS (by omega) k6) (λx hx=>by have:=r5 x hx;have:=k8.len;omega) (cD k6) r6 U l3 s1) (RH _ _) (λ_=>rfl) (G0:=G0) q9 (by omega) (tZ)
  (λpr G W=>mD j w0 (L0++(pr.map Po).filter λo=>!o.isEmpty && gx o) G W/\Bod w0.heap.size w0.heap.size G0 G S W)
  (λ_ _ _ _=>PC)
  (λs G A h k hk=>(h.1.lt k hk).2)
  (λs G A C h b=>⟨h.1.stp b (by omega) (by omega),b.tape.trans h.2.tape,LN h.2.size b.size,λk hk hc hg=>(b.keep k (LY hk h.2.size) (.inl ⟨by have:=a6.out;omega,by have:=a6.out;omega⟩)).trans (h.2.keep k hk hc hg),h.2.fp⟩)
  (λ_ _ _ _ _ h _=>h)
  ⟨by simpa using s2,eh u7⟩
  (λx=>{ tmps:=#[.slice base c.length Q,.pointer (Lq Y),.pointer (Lq j),LI,.bool LH,x.2,.slice base c.length Q,.func (.func 149) #[] #[.pointer (Lq F)],x.2,LI,LI,LI,LI,LI,LI,LI,LI,LI,LI,LI,LI,LI],defers:=[] }) ?assign ?body ?done ?stop
 case assign=>
  intro l x W K w
  gi_wp2
  exact w
 case body=>
  rintro l pr G x W ⟨O,hb⟩ hx ⟨t,ht⟩;have M:(L0++(pr.map Po).filter λo=>!o.isEmpty && gx o).length<=1000:=by
   have h1:=Oq (λo=>!o.isEmpty && gx o) (pr.map Po);have h2:=congrArg List.length ht;have h3:=HL.out;unfold bV at h3;simp only[Na,On,SV] at h1 h2 ⊢;omega
  have z2:=O.size;have c3:=(O.keep Y (aH X) r8).trans X;have l7:aC 0 W.heap.size W (.slice yb q.length yc) q:=by
   obtain⟨b',c',e,hl,hr⟩:=r9;refine⟨b',c',e,hl,λr=>?_⟩;have⟨B,o,cs,fr,e1,e2,e3,e4,e5⟩:=hr r;exact⟨B,o,cs,fr,e1,e2,by omega,(O.keep B e3 (λe=>by cases e;rw[e4] at d7;cases d7)).trans e4,e5⟩
  obtain⟨V,p⟩:=hx;have I:=q6 x.1 p.1 p.2.1 p.2.2.1;have p6:x.1.length<=5:=by have:=p.1;omega
  obtain⟨d,x2⟩:=x;obtain⟨xb,xc,k0,-,-⟩:=V.cell;dsimp only at k0 I p6 p;subst k0;have c1:W.cell? Y=Lq (.slice yb q.length yc):=aa c3 rfl;have c2:W.cell? ⟨Y,1,Lw⟩=Lq (.int .i64 f):=aa c3 rfl;obtain⟨z,hz⟩:∃z,z=gx d:=⟨_,rfl⟩;have l4:MH Ya 114 #[.agg #[.slice yb q.length yc,f],.slice xb d.length xc] W λe w'=>e=.returned (.bool z)/\W.gb w' Lw:=by
   rw[hz,u5];exact nz 0 W.heap.size _ _ q f d W ⟨_,rfl,l7⟩ V (LC _) k8 I
  have⟨m7,HZ⟩:=aS l4 hz;have s8:=Lu (show ai 0 W.heap.size W (.slice xb d.length xc) d from V);have⟨B9,T,HB,m6⟩:=dD p O hb M;clear l4 hz V p O hb c3 l7 I ht M;by_cases r:d=[]
  ·subst r
   gi_wp2
   refine⟨trivial,?_⟩
   gi_wp2
   refine⟨G,eh (Mf _ _),?_,HB⟩;rw[NJ,So];simpa using T.out
  ·have v6:0<d.length:=Pr.2 r;have k9:d.isEmpty=LH:=by cases d<;>simp_all
   have t6:=Lu r;clear r;cases z with
   | false=>
    gi_wp2_with (refine⟨trivial,?_⟩;gi_at_call 114;refine(CallsIn.inRound l (NM.2 m7)).mono ?_;rintro e w5 ⟨rfl,u⟩)
    refine⟨G,eh u,?_,HB.trans (eh u)⟩;rw[NJ,So];simpa[k9,<- HZ.out] using T.out.stp (nQ (n1:=w0.heap.size) (B:=w0.heap.size) u) (LC _) (LC _)
   | true=>
    have⟨sv,h8,q1,q2,q3,q4⟩:=T.out.sg;generalize d8:(L0++(pr.map Po).filter λo=>!o.isEmpty && gx o)=LL at q2 q4;rw[d8] at T m6;have t7:=Lu d8;clear d8;obtain⟨sa,sn,sc,rfl⟩:=cF q2;have A0:=m6.out;have l6:j<W.heap.size:=by omega
    have q8:(MU sa sn sc).ownBlock≠Lq j:=λe=>by have:=(T.lt _ (q3 _ e)).1;omega
    gi_wp2_with (refine⟨trivial,?_⟩;gi_at_call 114;refine(CallsIn.inRound l (NM.2 m7)).mono ?_;rintro e w5 ⟨rfl,u⟩;have i:=Lu (u.trans (ak w5 Lw));clear u)
    have s0:w5.drew.cell? j=Lq (.slice sa sn sc):=aa (bk i q1) rfl;have⟨m5,m4,e7,t1⟩:=dD q1 q2 q3 q4;clear q1 q2 q3 q4;refine rY (by rintro⟨_,_,h⟩;exact h) (by kernel_rfl) 5 (λw'=>w'.cell? j=Lq (.slice sa sn sc)) (by kernel_rfl) (by kernel_rfl) s0 (λhHeld=>?_);simp only[LX,Mj,Ms,NA,Mn,MF,MG,MZ,Mu,Mk];refine tk 0 (h:=tk 1 (h:=?_));try go_frame
    refine rdc 2 λK w=>?_;go_simp;go_at_call 84;refine(oK 0 w5.drew.heap.size _ d _ ((s8.kept i).mono (LC _) i.size) (LC _) (.inl t6) (by omega)).mono ?_;rintro e w6 ⟨v',rfl,d6,d9⟩;obtain⟨vb,vc,rfl,-,-⟩:=d9.cell;have s6:=d6.cl s0;have⟨Z,u0⟩:=aS d6 d9;clear d6 d9;refine w.out _ _ (by first | exact hHeld | exact s7 | exact s6 | exact(Lr _ _ Lw).cl hHeld) (λhHeld=>?_);clear w K;try go_frame
    refine rdc 3 λK w=>?_;go_simp;refine w.out _ _ (by first | exact hHeld | exact s7 | exact s6 | exact(Lr _ _ Lw).cl hHeld) (λhHeld=>?_);clear w K;try go_frame
    refine rdc 4 λK w=>?_;have l8:=dZ (C:=w6) m4 (λg e=>(i.trans Z).block g (T.lt g (e7 g e)).2 (by simp));refine step_append_lies _ (by rfl) _ _ _ (by rfl) w0.heap.size 29 i0 _ 1 24 Tp.und36 r3 p4 p3 n9 rfl (by omega) (.slice sa sn sc) LL.length h8 (by rfl) (by exact l8.alloc _) ⟨w6.heap.size,0,Lw⟩ 1 1 [.slice vb d.length vc] (by rfl) (by rfl) (Of (cs:=#[.slice vb d.length vc]) (t:=29) (fr:=(0,0)) (LS w6 _)) (by simp[OV]) (by omega) (by unfold Qe;omega) (by omega) (by have:=i.out.size;have:=Z.out.size;simp;omega) (w6.heap.size+1) (by simp) ?_;intro g' cp w7 L a b7 b6;have d5:W.gb w7 (MU sa sn sc).ownBlock:=(((i.trans Z).trans (Lr w6 (.cells #[.slice vb d.length vc] 29) Lw)).but _).trans ⟨a.os,a.tape,a.output,a.size,a.block⟩;have c8:w7.heap[j]?=Lq (.cells #[.slice sa sn sc] 36 (0,0)):=(d5.block j l6 (λe=>q8 e.symm)).trans m5;have s7:w7.cell? j=Lq (.slice sa sn sc):=aa c8 rfl;have z7:w7.frozen? ⟨j,0,Lw⟩=LH:=aB c8;have h6:(w6.alloc (.cells #[.slice vb d.length vc] 29)).gb w7 (MU sa sn sc).ownBlock:=a;have k5:ai W.heap.size w7.heap.size w7 (.slice vb d.length vc) d:=(((u0.alloc (.cells #[.slice vb d.length vc] 29)).mono i.size (LC _)).kept h6 (λR e=>.inl (T.lt R (e7 R e.symm.symm)).2)).mono (LC _) (by have:=h6.size;rw[Mc] at this;omega);have⟨s9,t2,u6,u8,t8⟩:=oC k5 L d5 b7 b6;clear L a b7 b6 h6 k5 c8 d5 l8;refine w.out _ _ (by first | exact hHeld | exact s7 | exact s6 | exact(Lr _ _ Lw).cl hHeld) (λhHeld=>?_);clear w K;try go_frame
    refine⟨by kernel_rfl,?_⟩;simp only[MQ,Nu];go_wp2;have⟨q7,k7⟩:=T.out.push m5 m4 e7 t1 u6 t2 (λg e=>by
     obtain rfl:g'=g:=by simpa[MP] using e
     rcases u8 with h | h
     ·exact .inl h
     ·right;have:=i.out.size;have:=Z.out.size;omega) (λg e=>by
     obtain rfl:g'=g:=by simpa[MP] using e
     exact t8) s9 rfl
    refine⟨_,k7 U.heap.size F (by omega) (by omega),?_,HB.trans (k7 _ _ (by omega) (by omega))⟩;rw[NJ,So,<- OE,t7];simpa[k9,<- HZ.out] using q7
 case done=>
  rintro D ys G W hD h9 ⟨O,hb⟩ w m3;have⟨T,HB,s5⟩:=bL O hb h9;clear O hb h9
  gi_wp2
  have b:Stp U.heap.size F G W (W.putObj D (.deferred Lw)):=gF _ hD m3;have q0:=HB.out.size;have O:=T.out.stp b (by omega) (by omega);rw[s5] at O;refine⟨by simp,.inl ⟨_,_,rfl,RS w,?_⟩⟩;refine⟨.bool LH,by simp[Om,Tryz.results120,go_sem],rfl,G,O,b.tape.trans HB.tape,LN q0 b.size,λk hk hc hg=>(b.keep k (by omega) (.inl ⟨by have:=a6.out;omega,by have:=a6.out;omega⟩)).trans (HB.keep k hk hc hg),HB.fp⟩
 case stop=>
  rintro D c pr G W hD ⟨t,ht⟩ h w m3;exact h.elim
end
section
open Go.RowKit
abbrev Rec:=Lx (Lx LJ) × Ly
def cf(l:Lx LJ):LJ:=l[0]?.getD 0
def qX(L:Lx (Lx LJ)):Lx LJ:=L[L.length - 1]?.getD []
def okF(p:Rec)(s:Lx LJ):MC:=!(decide (0<p.1.length) && decide (cf s<=cf (qX p.1))) && decide (p.2 &&& aP s=0)
def jJ(p:Rec)(s:Lx LJ):Rec:=(p.1++[s],p.2 ||| aP s)
def cZ(S:Lx (Lx LJ))(a:Lx Rec):Lx Rec:=a.flatMap λp=>(S.filter (okF p)).map (jJ p)
def sx:Ly->Lx (Lx LJ)->Ly->Lx Rec->LU (LU (Lx (Lx LJ)))
 | 0,_,_,_=>Lw
 | n+1,S,all,a=>match a.find? λp=>p.2 == all with
  | some p=>Lq (Lq p.1)
  | none=>if(cZ S a).length<=1300000 then(if cZ S a=[] then Lq Lw else sx n S all (cZ S a)) else Lw
def jg(w:Lt)(b d:LA)(p:Rec):Prop:=RowsIn 0 w.heap.size w b p.1/\d=.int .u8 (p.2:Ly)/\∀a n c,b=.slice a n c->n<=c
def kS(w:Lt)(v:LA)(R:Lx Rec):Prop :=
 ∃base b,v=.slice base R.length b /\
  (R≠[]->∃B o a e,base=Lq ⟨B,o,Lw⟩/\B<w.heap.size/\w.heap[B]?=Lq (.cells a 133 e) /\
   ∀i,i<R.length->∃p d c,R[i]?=Lq p/\a[o+i*2]?=Lq d/\a[o+(i*2+1)]?=Lq c/\jg w d c p)
def jg.kept{w a:Lt}{f e:LA}{p:Rec}(h:jg w f e p)(d:w.gb a Lw):jg a f e p:=⟨(h.1.kept d).mono (LC _) d.size,h.2⟩
def kS.at{w:Lt}{base:LU MN}{d k:Ly}{R:Lx Rec}(h:kS w (.slice base R.length d) R)(b:k<R.length):∃B o p a n c,base=Lq ⟨B,o,Lw⟩/\R[k]?=Lq p/\n=p.1.length/\w.cell? ⟨B,o+k*2,Lw⟩=Lq (.slice a n c)/\w.cell? ⟨B,o+k*2+1,Lw⟩=Lq (.int .u8 (p.2:Ly))/\RowsIn 0 w.heap.size w (.slice a n c) p.1/\n<=c:=by
 obtain⟨f,l,e,q⟩:=h;cases e;have⟨B,o,A,y,x,z,j,v⟩:=q (by intro e;rw[e] at b;simp at b);obtain⟨p,D,C,u,t,s,g,rfl,r⟩:=v k b;obtain⟨a,c,rfl,-,-⟩:=g.cell;exact⟨B,o,p,a,_,c,x,u,rfl,by simp[Mz,j,t],by rw[RY];simp[Mz,j,s],g,r _ _ _ rfl⟩
def nX(R:Lx (LA × LA)):Lx LA:=R.flatMap λx=>[x.1,x.2]
def zX(R:Lx (LA × LA))(i:Ly)(h:i<R.length):(nX R)[i*2]?=(R[i]?).map Po/\(nX R)[i*2+1]?=(R[i]?).map Prod.snd:=by
 induction R generalizing i with
 | nil=>simp at h
 | cons a t b=>
  cases i with
  | zero=>simp[nX]
  | succ i=>
   have:=b i (by simpa using h);rw[show(i+1)*2=i*2+2 by omega];simpa[nX] using this
def kS.own{k:Ly}{w:Lt}{v:LA}{R:Lx Rec}{C:Lx (LA × LA)}(h:w.ownsRow k 133 2 v R.length (nX C))(u:C.length=R.length)(o:∀(i:Ly) (p:Rec) (x:LA × LA),R[i]?=Lq p->C[i]?=Lq x->jg w x.1 x.2 p):kS w v R:=by
 obtain⟨z,q⟩:=h;rcases q with⟨rfl,r⟩ | ⟨g,d,c,rfl,y,j,t,hm,s,l⟩
 ·have:R=[]:=MT r;subst this;exact⟨Lw,0,rfl,λh=>absurd rfl h⟩
 ·refine⟨_,d,rfl,λ_=>⟨g,0,c,_,rfl,(Lz.1 j).1,j,λi n=>?_⟩⟩;have b:=(zX C i (by omega)).1;have a:=(zX C i (by omega)).2;have e:C[i]?=Lq C[i]:=LO (by omega);have f:R[i]?=Lq R[i]:=LO n;rw[e] at b a;rw[<- l,Oi (by omega)] at b a;refine⟨R[i],_,_,f,by simpa using b,by simpa using a,o i _ _ f e⟩
def Bf{w:Lt}{W:LU MN}{nc B:Ly}{L:Lx (Lx LJ)}{x:LA}{l:Lx LJ}(S:LZ)(hN:RowsIn 0 w.heap.size w (.slice W L.length nc) L)(hx:w.cell? B=Lq x)(p:ai 0 w.heap.size w x l)(hl:L.length<=1000) :∃g c R,(PI #[36,36] S #[.slice W L.length L.length,.slice (Lq B) 1 1]).run Ya w=.ok (.slice (Lq ⟨g,0,Lw⟩) (L.length+1) c) R/\w.gb R Lw /\RowsIn 0 R.heap.size R (.slice (Lq ⟨g,0,Lw⟩) (L.length+1) c) (L++[l])/\L.length+1<=c:=by
 have⟨X,D,z,n,u⟩:=Pd Tp.info29p;obtain⟨k,h,rfl,-,-⟩:=p.cell;have d:∀j v,([.slice k l.length h]:Lx LA)[j]?=Lq v->w.cell? ((⟨B,0,Lw⟩:MN).add j)=Lq v:=λj v r=>by
  have:j=0:=by have:=(Md.1 r).1;simp at this;omega
  subst this;simp at r;subst r;simpa[Addr.add] using hx
 have s:∀(a:Lx LA) (F:LM LA) (c:Ly),a.length=L.length+1->(∀i,i<L.length+1->∃m y,(L++[l])[i]?=Lq m/\a[i]?=Lq y/\ai 0 w.heap.size w y m) ->
   RowsIn 0 (w.drew.alloc (.cells (a.toArray++F) 29)).heap.size (w.drew.alloc (.cells (a.toArray++F) 29)) (.slice (Lq w.heap.size) (L.length+1) c) (L++[l]):=by
  intro a F c I hv;have hh:(w.drew.alloc (.cells (a.toArray++F) 29)).heap[w.heap.size]?=Lq (.cells (a.toArray++F) 29 (0,0)):=LS w.drew _;have hg:w.gb (w.drew.alloc (.cells (a.toArray++F) 29)) Lw:=(ak w Lw).t (Lr _ _ Lw);refine⟨_,c,by simp,by simp;omega,λ_=>⟨w.heap.size,0,_,_,rfl,Mw _,(Lz.1 hh).1,hh,λi f=>?_⟩⟩;have⟨m,y,O,e2,e3⟩:=hv i (by simpa using f);refine⟨m,y,O,?_,(e3.kept hg).mono (LC _) hg.size⟩;rw[Mn,PG (by simp at f ⊢;omega)];simpa using e2
 obtain⟨base,b0,e,-,hc⟩:=hN.cell;cases e;cases W with
 | none=>
  have h0:L=[]:=by
   refine MX λq=>?_;have⟨B,o,O,_⟩:=hc q;cases O
  subst h0;have A:=run_append_nil (P:=Ya) w 36 S 29 X _ Tp.und36 D z ⟨B,0,Lw⟩ 1 1 [.slice k l.length h] (by rw[n];rfl) d (by omega) (by omega) (by rw[u];omega);have:=s [.slice k l.length h] (Ol (MU Lw 0 0).cells (Qa w 1 0 29 - 1)) (Qa w 1 0 29) (by simp) (λi f=>by
   have:i=0:=by simp at f;omega
   subst this;exact⟨l,_,by simp,by simp,p⟩)
  exact⟨_,_,_,A,(ak w Lw).t (Lr _ _ Lw),this,kJ _ _ _ _⟩
 | some b=>
  by_cases q:L=[]
  ·subst q;have A:=run_append_grow (P:=Ya) w 36 S 29 X _ Tp.und36 D z b 0 0 [] (by simp) (λj v r=>by simp at r) ⟨B,0,Lw⟩ 1 1 [.slice k l.length h] (by rw[n];rfl) d (by omega) (by omega) (growslice_fits (by omega) (by rw[u];omega));have:=s [.slice k l.length h] (Ol (MU Lw 0 0).cells (Qa w 1 0 29 - 1)) (Qa w 1 0 29) (by simp) (λi f=>by
    have:i=0:=by simp at f;omega
    subst this;exact⟨l,_,by simp,by simp,p⟩)
   simp only[Mu,Mn] at A;exact⟨_,_,_,by simpa using A,(ak w Lw).t (Lr _ _ Lw),by simpa using this,kJ _ _ _ _⟩
  ·obtain⟨V,o,O,-,-,-,h4⟩:=hc q;cases O;obtain⟨a,I,M⟩:∃a:Lx LA,a.length=L.length/\∀i,i<L.length->∃m y,L[i]?=Lq m/\a[i]?=Lq y/\w.cell? ⟨V,o+i,Lw⟩=Lq y/\ai 0 w.heap.size w y m:=by
    refine⟨(Mr L.length).map λi=>(w.cell? ⟨V,o+i,Lw⟩).getD LI,by simp,λi f=>?_⟩;have⟨m,y,U,G,T⟩:=h4 i f;exact⟨m,y,U,by simp[f,G],G,T⟩
   have C:∀j v,a[j]?=Lq v->w.cell? ((⟨V,o,Lw⟩:MN).add j)=Lq v:=λj v r=>by
    have Y:j<L.length:=by have:=(Md.1 r).1;omega
    have⟨m,y,U,G,T,Z⟩:=M j Y;rw[G] at r;cases r;exact gX T
   have A:=run_append_grow (P:=Ya) w 36 S 29 X _ Tp.und36 D z ⟨V,o,Lw⟩ L.length L.length a (by rw[n];omega) C ⟨B,0,Lw⟩ 1 1 [.slice k l.length h] (by rw[n];rfl) d (by omega) (by omega) (growslice_fits (by omega) (by rw[u];omega));obtain⟨Q,H⟩:∃Q,Q=MU k l.length h:=⟨_,rfl⟩;have:=s (a++[Q]) (Ol (MU Lw 0 0).cells (Qa w (L.length+1) L.length 29 - (L.length+1))) (Qa w (L.length+1) L.length 29) (by simp;omega) (λi f=>by
    by_cases N:i<L.length
    ·have⟨m,y,U,G,T,Z⟩:=M i N;exact⟨m,y,by rw[Mv N];exact U,by rw[Mv (by omega)];exact G,Z⟩
    ·have:i=L.length:=by omega
     subst this;exact⟨l,Q,by simp,by rw[<- I];simp,by rw[H];exact p⟩)
   rw[H] at this;have e:a.toArray++[MU k l.length h].toArray=(a++[MU k l.length h]).toArray:=by simp
   rw[e] at A;exact⟨_,_,_,A,(ak w Lw).t (Lr _ _ Lw),this,kJ _ _ _ _⟩
def ql{d:LM NB}{o:NB}{a:ON}{w:Lt}{K:ON->Lt->Prop}{Q:SS->ON->Lt->Prop}{E:Prop}(f:o.guard=Lw)(s x:MS)(e:o.op=.call { callee:=.builtin .append,args:=#[s,x],argTypes:=#[36,36] }){nb:LU MN}{nc B:Ly}{L:Lx (Lx LJ)}{y:LA}{l:Lx LJ}(hs:a.eval s=.slice nb L.length L.length)(hx:a.eval x=.slice (Lq B) 1 1)(hN:RowsIn 0 w.heap.size w (.slice nb L.length nc) L)(hy:w.cell? B=Lq y)(hyi:ai 0 w.heap.size w y l)(hl:L.length<=1000)(h:∀g b c,w.gb c Lw->RowsIn 0 c.heap.size c (.slice (Lq ⟨g,0,Lw⟩) (L.length+1) b) (L++[l])->L.length+1<=b->K (a.put o.dst (.slice (Lq ⟨g,0,Lw⟩) (L.length+1) b)) c) :if MA o (Od d a.tmps)=LG then Oper.wp Ya o a w K Q else E:=by
 rw[if_pos (by simp[MA,f])];have⟨g,b,c,i,n,k,j⟩:=Bf o.type hN hy hyi hl;unfold Oper.wp OZ;simp only[e,resolve,invoke,builtin,NF,RO,NC,RQ,PS,Ra,hs,hx,i];exact h g b c n k j
def Jj{d:Lx Par}{b:LJ}{Y j:Ly}{w0:Lt}{n:LU MN}{l:Ly}(q:w0.heap[Y]?=Lq (.cells #[.slice n d.length l,b] 91 (0,0)))(u:aC 0 w0.heap.size w0 (.slice n d.length l) d){w:LM LA}{Z:Ly × Ly}(r:w0.heap[j]?=Lq (.cells w 36 Z))(g:YOk d b)(p:∀x:Lx LJ,x.Nodup->(∀y∈x,0<=y/\y<d.length)->PIn d x)(z:((cy (aJ d.length) 0).flatMap bV).length<=1000) :Cb w0.heap.size (aJ d.length) 120 #[.pointer (Lq Y),.pointer (Lq j)] (λdone G W=>mD j w0 (dY d b done) G W):=by
 refine⟨?_,?_,enters_of Tp.x120 (by kernel_rfl) rfl,?_⟩
 ·intro s G A C h Q;exact h.stp (nQ (n1:=w0.heap.size) (B:=w0.heap.size) Q) (LC _) (LC _)
 ·exact λs G A h k P=>(h.lt k P).2
 ·rintro done G W v c T M - f ⟨t,N⟩;have⟨X,D,h3⟩:=zU f;have i:(dY d b done).length+(bV c).length<=1000:=by
   have V:∀L:Lx (Lx LJ),(dY d b L).length<=(L.flatMap bV).length:=by
    intro L;induction L with
    | nil=>simp[dY]
    | cons a L F=>
     have:=Oq (λo:Lx LJ=>!o.isEmpty && aY d b o) (bV a);simp only[dY,Oo,Na,tg] at F ⊢;omega
   rw[N] at z;have h5:=V done;simp only[TA,Oo,List.flatMap_nil,Na] at z;omega
  refine(ED d b Y j w0 n l q u r g c X D (by have:=g.len;omega) (λx _ O I=>p x O λy H=>D y (I y H)) (dY d b done) i G W T v M).mono ?_;rintro e W' ⟨R,G',U,S⟩;exact⟨R,G',by rw[yM];exact U,S⟩
def Au{a:Lx Par}{d:LJ}{Y p:Ly}{w0:Lt}{r:LU MN}{q:Ly}(n:w0.heap[Y]?=Lq (.cells #[.slice r a.length q,d] 91 (0,0)))(o:aC 0 w0.heap.size w0 (.slice r a.length q) a)(f:w0.heap[p]?=Lq (.cells #[.slice Lw 0 0] 36 (0,0)))(j:YOk a d)(l:∀x:Lx LJ,x.Nodup->(∀y∈x,0<=y/\y<a.length)->PIn a x)(t:((cy (aJ a.length) 0).flatMap bV).length<=1000){b:LU MN}{k:Ly}(u:ai 0 w0.heap.size w0 (.slice b a.length k) (aJ a.length)) :MH Ya 82 #[.slice b a.length k,.func (.func 120) #[] #[.pointer (Lq Y),.pointer (Lq p)]] w0 λe v=>e=.returned (.bool LH)/\∃w,mD p w0 (dY a d (cy (aJ a.length) 0)) w v:=by
 have z:a.length<=5:=j.len;have h:=JL (b:=b) (c:=k) (ll:=aJ a.length) (Jj n o f j l t) (by rw[bw];omega) (iS (by rw[bw];omega) (bE _)) (by rw[bw];exact u) (G:=mW) ⟨rfl,rfl,rfl,LC _,λ_ _ _=>rfl,λk h=>h.elim,aH f,_,[],f,OF _ _ _ _,λg e=>by simp[MP] at e,λi s=>by simp[dY] at s⟩;rw[bw] at h;exact h
def mD.rows{k:Ly}{w0:Lt}{L:Lx (Lx LJ)}{G:Ly->Prop}{W:Lt}(h:mD k w0 L G W)(a:L≠[])(C:L.length<=1000):∃B c,W.heap[k]?=Lq (.cells #[.slice (Lq ⟨B,0,Lw⟩) L.length c] 36 (0,0))/\w0.heap.size<=B/\kR w0.heap.size W.heap.size B 0 W L:=by
 have⟨w,f,s,b,D,r⟩:=h.sg;obtain⟨A,b⟩:=b;rcases b with⟨rfl,t⟩ | ⟨g,e,d,rfl,q,p,z,hm,y,n⟩
 ·exact absurd (MT t) a
 ·refine⟨g,e,s,q,d,p,λi o=>?_⟩;obtain⟨l,x,v,j,u,-⟩:=r i o;refine⟨l,x,v,?_,u⟩;rw[<- n,Oi (by omega)] at j;simpa using j
def kR.rows{a d B o:Ly}{w:Lt}{L:Lx (Lx LJ)}(h:kR a d B o w L)(e:B<d)(b:a<=B)(j:L.length<=1000)(c:Ly):RowsIn a d w (.slice (Lq ⟨B,o,Lw⟩) L.length c) L:=by
 obtain⟨i,g,f⟩:=h;exact⟨_,c,rfl,by omega,λ_=>⟨B,o,i,_,rfl,b,e,g,f⟩⟩
def Ct:∀m n:Fin 32,Ut .and .u8 (m.1:LJ) (n.1:LJ)=((m.1 &&& n.1:Ly):LJ):=by decide
def Fg:∀m n:Fin 32,Ut .or .u8 (m.1:LJ) (n.1:LJ)=((m.1 ||| n.1:Ly):LJ):=by decide
def Tp.info133p:(Ya.info? 133).map (λi=>(i.zero,i.size,i.bytes))=Lq (Lq (.agg #[.slice Lw 0 0,.int .u8 0]),2,32):=by kernel_rfl
def Tp.und134:Ya.underlying 134=Lq (.slice 133):=by rw[Tp.und];exact Tryz.underlying134
def RowsIn.keptT{k a O:Ly}{w j:Lt}{v:LA}{L:Lx (Lx LJ)}(h:RowsIn k a w v L)(n:w.gb j (Lq O)){f:LM LA}{d:LZ}{C:Ly × Ly}(b:w.heap[O]?=Lq (.cells f d C))(z:d≠3)(c:d≠29):RowsIn k a j v L:=by
 obtain⟨base,g,rfl,y,t⟩:=h;refine⟨base,g,rfl,y,λu=>?_⟩;have⟨B,o,I,A,H,G,F,p,D⟩:=t u;refine⟨B,o,I,A,H,G,F,blk n (λe=>?_) p,λi a=>?_⟩
 ·cases e;rw[p] at b;cases b;exact c rfl
 ·have⟨l,x,s,r,q⟩:=D i a;exact⟨l,x,s,r,q.keptT n b z⟩
def dT(a:Ly)(w:Lt)(v:LA)(R:Lx Rec):Prop :=
 ∃C:Lx (LA × LA),w.ownsRow a 133 2 v R.length (nX C)/\C.length=R.length/\∀(i:Ly) (p:Rec) (x:LA × LA),R[i]?=Lq p->C[i]?=Lq x->jg w x.1 x.2 p
def dT.nil(a:Ly)(w:Lt):dT a w (.slice Lw 0 0) []:=⟨[],OF _ _ _ _,rfl,λi p x h=>by simp at h⟩
def dT.recs{a:Ly}{w:Lt}{v:LA}{R:Lx Rec}(h:dT a w v R):kS w v R:=by
 obtain⟨C,d,c,b⟩:=h;exact kS.own d c b
def dT.kept{d:Ly}{w a:Lt}{v:LA}{R:Lx Rec}(h:dT d w v R)(f:w.gb a Lw):dT d a v R:=by
 obtain⟨C,j,l,k⟩:=h;exact⟨C,dZ j λg e=>f.block g (j.lt g e).2 (by simp),l,λi p x q o=>(k i p x q o).kept f⟩
def Bi(C:Lx (LA × LA))(x:LA × LA):nX (C++[x])=nX C++[x.1,x.2]:=by simp[nX]
def jg.app{i n:Ly}{w d:Lt}{v f e:LA}{h:Lx LA}{p:Rec}(b:jg w f e p)(j:w.ownsRow i 133 2 v n h)(a:w.gb d v.ownBlock):jg d f e p:=by
 refine⟨?_,b.2⟩;rcases j.2 with⟨rfl,_⟩ | ⟨g,l,k,rfl,o,c,_⟩
 ·exact(RowsIn.kept b.1 a (by simp[MP])).mono (LC _) a.size
 ·exact(RowsIn.keptT b.1 (O:=g) a c (by decide) (by decide)).mono (LC _) a.size
def tx(S:Lx (Lx LJ))(b:Lx Rec):(cZ S b).length<=b.length*S.length:=by
 unfold cZ;induction b with
 | nil=>simp
 | cons a t c=>
  have:=Oq (okF a) S;simp only[Oo,Na,On,LX];rw[Sx];omega
def dT.push{e:Ly}{w d:Lt}{v j:LA}{R:Lx Rec}{C:Lx (LA × LA)}{h g:LA}{p:Rec}(t:w.ownsRow e 133 2 v R.length (nX C))(k:C.length=R.length)(s:∀(i:Ly) (p:Rec) (x:LA × LA),R[i]?=Lq p->C[i]?=Lq x->jg w x.1 x.2 p)(r:w.gb d v.ownBlock)(b:d.ownsRow e 133 2 j (R.length+1) (nX C++[h,g]))(l:jg d h g p):dT e d j (R++[p]):=by
 refine⟨C++[(h,g)],by rw[Bi,Na];exact b,by simp[k],λi q x a c=>?_⟩;by_cases o:i<R.length
 ·rw[Mv o] at a;rw[Mv (by omega)] at c;exact(s i q x a c).app t r
 ·have f:i=R.length:=by
   have:=(Md.1 a).1;simp at this;omega
  subst f;rw[Nz (LC _)] at a;rw[Nz (by omega)] at c;simp[k] at a c;subst a c;exact l
def KB(S:Lx (Lx LJ))(a:Lx Rec):Prop:=a.length<=1300000/\∀p∈a,(∀r∈p.1,r∈S)/\p.2<32/\p.1.length<=100
def zN(S:Lx (Lx LJ))(b:Ly)(R:Lx (Lx LJ))(v:LA)(w:Lt)(m:Ly):Prop:=∃a,kS w v a/\KB S a/\(∀p∈a,p.1.length+m<=100)/\sx m S b a=Lq (Lq R)
open Classical in
noncomputable def ni(P:Ly->Prop):Ly->Ly
 | 0=>0
 | n+1=>if P (ni P n) then ni P n else n+1
def qW(P:Ly->Prop):∀n,ni P n<=n
 | 0=>LC _
 | n+1=>by
  have:=qW P n;unfold ni;split<;>omega
def fl(P:Ly->Prop):∀n m,m<=n->P m->P (ni P n)/\ni P n<=m
 | 0,m,h,a=>by
  obtain rfl:m=0:=by omega
  exact⟨a,LC _⟩
 | n+1,m,h,a=>by
  unfold ni;split
  ·rename_i b
   refine⟨b,?_⟩;by_cases hm:m<=n
   ·exact(fl P n m hm a).2
   ·have:=qW P n;omega
  ·rename_i b
   have:¬ m<=n:=λhm=>b (fl P n m hm a).1;obtain rfl:m=n+1:=by omega
   exact⟨a,LC _⟩
noncomputable def zY(S:Lx (Lx LJ))(a:Ly)(R:Lx (Lx LJ))(v:LA)(w:Lt):Ly:=ni (zN S a R v w) 100
def yS{S:Lx (Lx LJ)}{a:Ly}{R:Lx (Lx LJ)}{v:LA}{w:Lt}{m:Ly}(hm:m<=100)(h:zN S a R v w m):zN S a R v w (zY S a R v w):=(fl _ 100 m hm h).1
def wF{S:Lx (Lx LJ)}{a:Ly}{R:Lx (Lx LJ)}{v:LA}{w:Lt}{m:Ly}(hm:m<=100)(h:zN S a R v w m):zY S a R v w<=m:=(fl _ 100 m hm h).2
def yY{S:Lx (Lx LJ)}{a:Lx Rec}{k:Ly}{p:Rec}(h:a[k]?=Lq p):cZ S (a.take (k+1))=cZ S (a.take k)++(S.filter (okF p)).map (jJ p):=by
 rw[Np,h];simp[cZ]
def tD{S:Lx (Lx LJ)}{a:Lx Rec}{q:Rec}(h:q∈cZ S a):∃p∈a,∃s∈S,q=jJ p s:=by
 simp only[cZ,Ox,Nt,Oa] at h;obtain⟨p,c,s,⟨b,-⟩,rfl⟩:=h;exact⟨p,c,s,b,rfl⟩
def my(z:LM LA)(h:z.size=123):∃t:Ly->LA,(∀(j:Ly) (v:LA),z[j]?=Lq v->t j=v)/\z=#[t 0,t 1,t 2,t 3,t 4,t 5,t 6,t 7,t 8,t 9,t 10,t 11,t 12,t 13,t 14,t 15,t 16,t 17,t 18,t 19,t 20,t 21,t 22,t 23,t 24,t 25,t 26,t 27,t 28,t 29,t 30,t 31,t 32,t 33,t 34,t 35,t 36,t 37,t 38,t 39,t 40,t 41,t 42,t 43,t 44,t 45,t 46,t 47,t 48,t 49,t 50,t 51,t 52,t 53,t 54,t 55,t 56,t 57,t 58,t 59,t 60,t 61,t 62,t 63,t 64,t 65,t 66,t 67,t 68,t 69,t 70,t 71,t 72,t 73,t 74,t 75,t 76,t 77,t 78,t 79,t 80,t 81,t 82,t 83,t 84,t 85,t 86,t 87,t 88,t 89,t 90,t 91,t 92,t 93,t 94,t 95,t 96,t 97,t 98,t 99,t 100,t 101,t 102,t 103,t 104,t 105,t 106,t 107,t 108,t 109,t 110,t 111,t 112,t 113,t 114,t 115,t 116,t 117,t 118,t 119,t 120,t 121,t 122]:=by
 have a:=jI z;rw[h] at a;exact⟨λj=>z[j]?.getD LI,λj v e=>by show z[j]?.getD LI=v;rw[e];rfl,a.t rfl⟩
def swp(s:Lx LJ)(i:Ly):Lx LJ:=(s.set i (s[i+1]?.getD 0)).set (i+1) (s[i]?.getD 0)
def zS(s:Lx LJ)(i:Ly):(swp s i).length=s.length:=by simp[swp]
def mF(a:Lx (Lx LJ) × Lx (Lx LJ))(m:Lx LJ):Lx (Lx LJ) × Lx (Lx LJ):=if m∈a.1 then a else(a.1++[m],a.2++[m])
def La(n:Ly)(a:Lx (Lx LJ) × Lx (Lx LJ))(s:Lx LJ):Lx (Lx LJ) × Lx (Lx LJ):=(Mr (n - 1)).foldl (λa i=>mF a (swp s i)) a
def zx(n:Ly)(K a:Lx (Lx LJ)):Lx (Lx LJ) × Lx (Lx LJ):=a.foldl (La n) (K,[])
def dO(a:Lx Par)(c:Lx (Lx LJ)):MC × Lx LJ:=c.foldl (λb s=>if aL a (pre Par.mx a a.length) (bP s)=LG then(LG,if b.1=LG/\rB (bP s) b.2=LH then b.2 else bP s) else b) (LH,[])
def okS(b:Lx Par)(a:LJ)(s:Lx LJ):MC:=decide (s.length=5) && (decide (bP s).Nodup && ((bP s).all (λx=>decide (0<=x/\x<b.length)) && decide (aV b (bP s)<=a)))
def kE{b:Lx Par}{a:LJ}{s:Lx LJ}(h:okS b a s=LG):s.length=5/\POk b a (bP s):=by
 simp only[okS,Mg,decide_eq_true_eq,MD] at h;obtain⟨f,e,d,c⟩:=h;exact⟨f,d,e,c,by have:=sL s (λy=>y != -1);unfold bP;omega⟩
def qP(c:Lx Par)(b:LJ)(n:Ly):Ly->Lx (Lx LJ)->Lx (Lx LJ)->LJ->LU (LU (LJ × Lx LJ))
 | 0,_,_,_=>Lw
 | f+1,K,a,d=>if a.all (okS c b)=LG/\a.length<=1000 then
   (if(dO c a).1=LG then Lq (Lq (d,(dO c a).2))
    else if(zx n K a).2.length<=1000 then(if(zx n K a).2=[] then Lq Lw else qP c b n f (zx n K a).1 (zx n K a).2 (d+1)) else Lw)
  else Lw
def gO(L:Lx (Lx LJ)):Lx LA:=L.flatMap λs=>s.map (Mp .i64)
def BW{L:Lx (Lx LJ)}(h:∀s∈L,s.length=5)(i:Ly)(s:Lx LJ)(a:L[i]?=Lq s)(d:Ly)(g:d<5):(gO L)[i*5+d]?=Lq (.int .i64 (s[d]?.getD 0)):=by
 induction L generalizing i with
 | nil=>simp at a
 | cons b L c=>
  have f:=h b (by simp);unfold gO;rw[Oo];cases i with
  | zero=>
   simp at a;subst a;rw[Mv (by simp;omega),Nat.zero_mul,Mn,NO,LO (by omega)];rfl
  | succ i=>
   rw[Nz (by simp;omega),On,f,show(i+1)*5+d - 5=i*5+d by omega];exact c (λt e=>h t (by simp[e])) i (by simpa using a)
def zt(L:Lx (Lx LJ))(s:Lx LJ):gO (L++[s])=gO L++s.map (Mp .i64):=by simp[gO]
def dA(w:Lt)(v:LA)(L:Lx (Lx LJ)):Prop :=
 ∃base a,v=.slice base L.length a /\
  (L≠[]->∃B o b c,base=Lq ⟨B,o,Lw⟩/\w.heap[B]?=Lq (.cells b 118 c)/\∀i s,L[i]?=Lq s->∀d,d<5->b[o+i*5+d]?=Lq (.int .i64 (s[d]?.getD 0)))
def dA.kept{w g:Lt}{v:LA}{L:Lx (Lx LJ)}(h:dA w v L)(j:∀(k:Ly) (d:LM LA) (a:Ly × Ly),w.heap[k]?=Lq (Obj.cells d 118 a)->g.heap[k]?=Lq (Obj.cells d 118 a)):dA g v L:=by
 obtain⟨base,f,rfl,i⟩:=h;refine⟨base,f,rfl,λe=>?_⟩;have⟨B,o,d,a,q,p,l⟩:=i e;exact⟨B,o,d,a,q,j B _ _ p,l⟩
def dA.keptM{w c:Lt}{v:LA}{L:Lx (Lx LJ)}{M:Ly}(h:dA w v L)(d:w.gb c (Lq M))(hm:∀b a,w.heap[M]?≠Lq (Obj.cells b 118 a)):dA c v L:=h.kept λk b a e=>(d.block k (aH e) (λh=>hm b a (by cases h;exact e))).t e
def cP.not{w:Lt}{M:Ly}{K:Lx (Lx LJ)}(h:cP w M K)(d:LM LA)(t:LZ)(c:Ly × Ly):w.heap[M]?≠Lq (Obj.cells d t c):=by
 obtain⟨f,a,b,-⟩:=h;rw[b];intro e;cases e
def dA.own{e:Ly}{w:Lt}{v:LA}{L:Lx (Lx LJ)}(h:w.ownsRow e 118 5 v L.length (gO L))(n:∀s∈L,s.length=5):dA w v L:=by
 obtain⟨u,o⟩:=h;rcases o with⟨rfl,p⟩ | ⟨g,b,a,rfl,t,k,r,hm,q,f⟩
 ·have:L=[]:=MT p;subst this;exact⟨Lw,0,rfl,λh=>absurd rfl h⟩
 ·refine⟨_,b,rfl,λ_=>⟨g,0,a,_,rfl,k,λi s c d l=>?_⟩⟩;have j:=(Md.1 c).1;have:=BW n i s c d l;rw[<- f,Oi (by omega)] at this;simpa using this
def dA.at{w:Lt}{base:LU MN}{n d k:Ly}{L:Lx (Lx LJ)}(h:dA w (.slice base n d) L){s:Lx LJ}(b:L[k]?=Lq s):∃B o,base=Lq ⟨B,o,Lw⟩/\B<w.heap.size/\w.cell? ⟨B,o+k*5,Lw⟩=Lq (.int .i64 (s[0]?.getD 0))/\w.cell? ⟨B,o+k*5+1,Lw⟩=Lq (.int .i64 (s[1]?.getD 0))/\w.cell? ⟨B,o+k*5+2,Lw⟩=Lq (.int .i64 (s[2]?.getD 0))/\w.cell? ⟨B,o+k*5+3,Lw⟩=Lq (.int .i64 (s[3]?.getD 0))/\w.cell? ⟨B,o+k*5+4,Lw⟩=Lq (.int .i64 (s[4]?.getD 0)):=by
 obtain⟨f,g,e,j⟩:=h;cases e;have⟨B,o,r,q,p,a,l⟩:=j (by intro e;rw[e] at b;simp at b);have c:=l k s b;exact⟨B,o,p,aH a,aa a (c 0 (by omega)),aa a (c 1 (by omega)),aa a (c 2 (by omega)),aa a (c 3 (by omega)),aa a (c 4 (by omega))⟩
def Tp.info118p:(Ya.info? 118).map (λi=>(i.zero,i.size,i.bytes))=Lq (Lq (.agg #[.int .i64 0,.int .i64 0,.int .i64 0,.int .i64 0,.int .i64 0]),5,40):=by kernel_rfl
def Tp.und121:Ya.underlying 121=Lq (.slice 118):=by rw[Tp.und];exact Tryz.underlying121
end
section
open Go Go.RowKit Go.Co
noncomputable def mX8:Og:=sqB (sqB (sqB (sqB (sqB (sqB (sqB (inn (sqB (Tryz.f54.body.getD .skip)))))))))
noncomputable def wW:Og:=sqB (sqB mX8)
noncomputable def mLA:Og:=inn (sqB (sqA wW))
noncomputable def Eh:Og:=sqB (sqB wW)
noncomputable def mLB:Og:=inn (sqB (sqA Eh))
noncomputable def mB3:Og:=inn (sqA (sqB (sqB (inn mLB))))
noncomputable def mLC:Og:=inn (sqB (sqB mB3))
def Kp(b:Lx Ly)(z a:LM LA):Prop:=∀j∈b,a[j]?=z[j]?
def Et(b:Lx Ly)(z a:LM LA)(d:a.size=123)(e:Kp b z a):a=((Mr 123).map λj=>bif b.elem j then z[j]?.getD LI else a[j]?.getD LI).toArray:=by
 have c:=jI a;rw[d] at c;refine c.t (congrArg List.toArray (RX λj f=>?_));cases hc:b.elem j with
 | false=>rfl
 | true=>
  show a[j]?.getD LI=z[j]?.getD LI;rw[e j (List.elem_iff.1 hc)]
def jd(k:Ly)(a:Lx (Lx LJ) × Lx (Lx LJ))(s:Lx LJ):Lx (Lx LJ) × Lx (Lx LJ):=(Mr k).foldl (λa i=>mF a (swp s i)) a
def lq(k:Ly)(a:Lx (Lx LJ) × Lx (Lx LJ))(s:Lx LJ):jd (k+1) a s=mF (jd k a s) (swp s k):=by simp[jd,Qx]
def AN(a:Lx (Lx LJ) × Lx (Lx LJ))(m:Lx LJ):(mF a m).2.length<=a.2.length+1:=by
 unfold mF;split<;>simp
def xE(k:Ly)(a:Lx (Lx LJ) × Lx (Lx LJ))(s:Lx LJ):(jd k a s).2.length<=a.2.length+k:=by
 induction k with
 | zero=>simp[jd]
 | succ k b=>rw[lq];have:=AN (jd k a s) (swp s k);omega
def yg{b:Lx (Lx LJ) × Lx (Lx LJ)}{m:Lx LJ}(h:∀s∈b.2,s.length=5)(hm:m.length=5):∀s∈(mF b m).2,s.length=5:=by
 unfold mF;split
 ·exact h
 ·intro s c;rcases Ob.1 c with a | a
  ·exact h s a
  ·rw[Nl.1 a];exact hm
def Cd{k:Ly}{a:Lx (Lx LJ) × Lx (Lx LJ)}{s:Lx LJ}(h:∀s∈a.2,s.length=5)(c:s.length=5):∀t∈(jd k a s).2,t.length=5:=by
 induction k with
 | zero=>simpa[jd] using h
 | succ k b=>rw[lq];exact yg b (by rw[zS];exact c)
def kg{P:LV}{c:Og}{Q:SS->ON->Lt->Prop}{a:ON}{w:Lt}(F:Lt->Prop)(b:F w)(h:∀u,F u->c.wp P Q a u):c.wp P Q a w:=h w b
structure Kx(Sb i:Ly)(s:Lx LJ)(a b:LJ)(w:Lt):Prop where
 fst:w.cell? ⟨Sb,i,Lw⟩=Lq (.int .i64 a)
 snd:w.cell? ⟨Sb,i+1,Lw⟩=Lq (.int .i64 b)
 mid:∀W:Lt,W.heap=w.heap->(W.setCell ⟨Sb,i,Lw⟩ (.int .i64 b)).cell? ⟨Sb,i+1,Lw⟩=Lq (.int .i64 b)/\(W.setCell ⟨Sb,i,Lw⟩ (.int .i64 b)).frozen? ⟨Sb,i+1,Lw⟩=LH
 fin:∀W:Lt,W.heap=w.heap->((W.setCell ⟨Sb,i,Lw⟩ (.int .i64 b)).setCell ⟨Sb,i+1,Lw⟩ (.int .i64 a)).heap[Sb]?=Lq (.cells ((swp s i).map (Mp .i64)).toArray 118 (0,0))
def cj{w:Lt}{d i:Ly}{s:Lx LJ}{a b:LJ}(h:w.heap[d]?=Lq (.cells (s.map (Mp .i64)).toArray 118 (0,0)))(g:s[i]?=Lq a)(f:s[i+1]?=Lq b):Kx d i s a b w where
 fst:=aa h (by simp[g])
 snd:=aa h (by simp[f])
 mid W e:=by
  have c:=ar (o:=i) (v:=.int .i64 b) (show W.heap[d]?=_ by rw[e];exact h);refine⟨aa c ?_,aB c⟩;rw[ML (by omega)];simp[f]
 fin W e:=by
  have c:=ar (o:=i+1) (v:=.int .i64 a) (ar (o:=i) (v:=.int .i64 b) (show W.heap[d]?=_ by rw[e];exact h));rw[c];unfold swp;rw[g,f];simp[List.map_set]
def FP{s:Lx LJ}{i:Ly}{a b:LJ}(d:s[i]?=Lq a)(c:s[i+1]?=Lq b):swp (swp s i) i=s:=by
 apply QE;intro j;simp only[swp,d,c,TV,OW];have f:=(Md.1 d).1;have e:=(Md.1 c).1;by_cases h:i+1=j
 ·subst h;rw[c];simp[f,e]
 ·by_cases g:i=j
  ·subst g;rw[d];simp[f,e]
  ·simp[h,g]
def CZ{s:Lx LJ}{i:Ly}{a b:LJ}(d:s[i]?=Lq a)(c:s[i+1]?=Lq b):(swp s i)[i]?=Lq b/\(swp s i)[i+1]?=Lq a:=by
 have f:=(Md.1 d).1;have e:=(Md.1 c).1;unfold swp;rw[d,c];constructor
 ·rw[PZ (by omega)];simp[f]
 ·simp[e]
structure McI(w1 u:Lt)(M Sb:Ly)(kn:Lx (Lx LJ) × Lx (Lx LJ))(nv:LA)(s:Lx LJ):Prop where
 g:w1.grownBy u (Lq M)
 m:cP u M kn.1
 o:u.ownsRow w1.heap.size 118 5 nv kn.2.length (gO kn.2)
 n:∀b,nv.ownBlock=Lq b->b≠Sb
 s:u.heap[Sb]?=Lq (.cells (s.map (Mp .i64)).toArray 118 (0,0))
def McI.kept{d u f:Lt}{M a:Ly}{q:Lx (Lx LJ) × Lx (Lx LJ)}{p:LA}{s l:Lx LJ}(h:McI d u M a q p s)(t:M<d.heap.size)(k:d.heap.size<=a)(i:u.gb f (Lq a))(r:f.heap[a]?=Lq (.cells (l.map (Mp .i64)).toArray 118 (0,0))):McI d f M a q p l where
 g:=h.g.andThen i (λj e=>.inl (by cases e;exact k))
 m:=h.m.kept (i.block M (LY t h.g.size) (λe=>by cases e;omega))
 o:=h.o.kept i (.inr λe=>h.n _ e rfl)
 n:=h.n
 s:=r
def McI.swap{d u:Lt}{M c i:Ly}{g:Lx (Lx LJ) × Lx (Lx LJ)}{f:LA}{s:Lx LJ}{a b:LJ}(h:McI d u M c g f s)(l:M<d.heap.size)(e:d.heap.size<=c)(k:s[i]?=Lq a)(j:s[i+1]?=Lq b) :McI d (((u.setCell ⟨c,i,Lw⟩ (.int .i64 b)).setCell ⟨c,i+1,Lw⟩ (.int .i64 a)).drew) M c g f (swp s i) :=
 h.kept l e (((an _ _ _ _).t (an _ _ _ _)).t (ak _ _)) ((cj h.s k j).fin u rfl)
def McI.put{b u a:Lt}{M f:Ly}{K i:Lx (Lx LJ)}{j:LA}{s m:Lx LJ}(h:McI b u M f (K,i) j s)(p:M<b.heap.size){o:SQ}(k:a=u.putObj M o)(hm:cP a M (K++[m])):McI b a M f (K++[m],i) j s:=by
 have l:=h.g.size;have c:u.gb a (Lq M):=by rw[k];exact Pi u M o
 refine⟨h.g.t c,hm,h.o.kept c (.inr λe=>?_),h.n,(c.block f (aH h.s) (λe=>?_)).t h.s⟩
 ·have:=(h.o.lt M e).1;omega
 ·cases e;exact h.m.not _ _ _ h.s
def McI.push{f u k:Lt}{M i:Ly}{K a:Lx (Lx LJ)}{q:LU MN}{l p:Ly}{s m:Lx LJ}(h:McI f u M i (K,a) (.slice q l p) s)(F:M<f.heap.size){x:SQ}{d cap:Ly}(r:(u.alloc x).gb k (MU q l p).ownBlock)(y:k.ownsRow f.heap.size 118 5 (.slice (Lq d) (a.length+1) cap) (a.length+1) (gO a++m.map (Mp .i64)))(v:(MU q l p).ownBlock=Lq d\/d=u.heap.size+1) :McI f k M i (K,a++[m]) (.slice (Lq d) (a.length+1) cap) s:=by
 have D:=h.g.size;have B:=aH h.s;have c:=Lr u x Lw;refine⟨(h.g.andThen c (by simp)).andThen r (λj e=>.inl (h.o.lt j e).1),h.m.kept ((r.block M (by rw[Mc];omega) (λe=>?_)).t (c.block M (by omega) (by simp))),?_,λb e=>?_,(r.block i (by rw[Mc];omega) (λe=>h.n i e.symm rfl)).t (aD h.s)⟩
 ·have:=(h.o.lt M e.symm).1;omega
 ·rw[zt,Na];exact y
 ·have z:d=b:=by simpa[MP] using e
  subst z;rcases v with w | w
  ·exact h.n _ w
  ·omega
def AL{kn:Lx (Lx LJ) × Lx (Lx LJ)}{m:Lx LJ}(h:m∈kn.1):mF kn m=kn:=if_pos h
def AM{kn:Lx (Lx LJ) × Lx (Lx LJ)}{m:Lx LJ}(h:m∉kn.1):mF kn m=(kn.1++[m],kn.2++[m]):=if_neg h
def cCh:Lx Ly:=[0,1,2,3,4,5,6,7,8,9,10,12,13,14,15,16,17,18,19,23,24,25,26,27,28,29,30,31,32,33,34,35,36,37,38,39,40,41,42,43,44,45,46,47,48,49,50,51,52,53,54,55,56,57,58,59,60,61,62,63,64,65,66,67,68,69,70,115,116,117,118,119,120,121,122]
def JY(z:LM LA)(hz:z.size=123)(P w:Lt)(R:ON->Lt->Prop)(F M B:Ly)(T:LJ)(s:Lx LJ)(K D:Lx (Lx LJ))(nv:LA)(h9:z[9]?=Lq (.map (Lq M)))(g7:z[11]?=Lq nv)(g6:z[12]?=Lq (.int .i64 T))(g5:z[19]?=Lq (.pointer (Lq B)))(e8:z[70]?=Lq (.int .i64 F))(e7:z[71]?=Lq (.int .i64 0))(hn:F<=4)(hs:s.length=5)(hM:M<P.heap.size)(b6:P.heap.size<=B)(hS:w.heap[B]?=Lq (.cells (s.map (Mp .i64)).toArray 118 (0,0)))(hg:P.gb w (Lq M))(n:cP w M K)(ho:w.ownsRow P.heap.size 118 5 nv D.length (gO D))(e4:∀b,nv.ownBlock=Lq b->b≠B)(q4:D.length+F<=100000)(r8:0<=T/\T<=100000)(h5:∀s∈D,s.length=5)(hR:∀(z':LM LA) (c8:LA) y,z'.size=123->z'[11]?=Lq c8->Kp cCh z z'->P.gb y (Lq M)->cP y M (jd F (K,D) s).1->y.ownsRow P.heap.size 118 5 c8 (jd F (K,D) s).2.length (gO (jd F (K,D) s).2)->R ⟨z',[]⟩ y) :mLC.wp Ya (QF 4 (eL R)) ⟨z,[]⟩ w:=by
 have⟨i0,n7,n6,n4,n3⟩:=Pd Tp.info118p;obtain⟨t,ht,rfl⟩:=my z hz;have e9:=ht 9 _ h9;have g9:=ht 11 _ g7;have b9:=ht 12 _ g6;have b8:=ht 19 _ g5;have b7:=ht 70 _ e8;have g8:=ht 71 _ e7;clear ht h9 g7 g6 g5 e8 e7;rw[e9,g9,b9,b8,b7,g8];have HE:=Lu (Mm e9 (Mm b9 (Mm b8 b7)));clear e9 g9 b9 b8 b7 g8;have⟨HR,HG,HS,HK,HO,p4,H5⟩:=BP hR hg hS n ho e4 h5;clear hR hg hS n ho e4 hz h5;simp only[mLC,mB3,mLB,Eh,wW,mX8,Sc,LQ,sqA,sqB,inn];go_wp2;go_loopw [11,71] (λnv iv wr=>∃i:Ly,iv=.int .i64 i/\i<=F/\McI P wr M B (jd i (K,D) s) nv s) (λ_ iv _=>(F - intOf iv).toNat)
 case atStart=>exact⟨0,rfl,by omega,HG,HK.out,HO,p4,HS⟩
 case round=>
  obtain⟨i,rfl,hi,Q⟩:=hrel;obtain⟨oa,om,oc,rfl⟩:=cF Q.o;have HI:=Lu Q;have I:=xE i (K,D) s;by_cases s5:i<F
  ·obtain⟨a,j⟩:∃a,s[i]?=Lq a:=⟨_,LO (by omega)⟩;obtain⟨b,f⟩:∃b,s[i+1]?=Lq b:=⟨_,LO (by omega)⟩;obtain⟨q,hq⟩:∃q,q=swp s i:=⟨_,rfl⟩;have d8:q[i]?=Lq b:=by rw[hq];exact(CZ j f).1
   have d7:q[i+1]?=Lq a:=by rw[hq];exact(CZ j f).2
   have d6:swp q i=s:=by rw[hq];exact FP j f
   have a7:q.length=5:=by rw[hq,zS];exact hs
   have q3:(i:LJ)<(F:LJ):=by omega
   have r7:IntKind.i64.wrap (i:LJ)=(i:LJ):=MI _ (by omega);have r6:IntKind.i64.wrap ((i:LJ)+1)=(i:LJ)+1:=MI _ (by omega);have q1:IntKind.i64.wrap (T+1)=T+1:=MI _ (by omega);have s4:((i:LJ)+1).toNat=i+1:=by omega
   have s7:(i:LJ)<5:=by omega
   have s6:(i:LJ)+1<5:=by omega
   have s2:(0:LJ)<=(i:LJ)+1:=by omega
   have hu:(0:LJ)<=(i:LJ):=by omega
   have ca:=(cj Q.s j f).fst;have A:=(cj Q.s j f).snd;have za:=aB Q.s (o:=i);have x:=aB Q.s (o:=i+1);have l:=Lu (cj Q.s j f).mid;have S:=Lu (Q.swap hM b6 j f);have AB:=Lu (Mm j f);have HQ:=Lu (Mm d8 d7);have N:=Lu (Mm d6 hq);clear Q j f d8 d7 d6;go_wp2_with (fail);refine bn 12 (λy=>y.cell? ⟨B,i+1,Lw⟩=Lq (.int .i64 b)/\y.frozen? ⟨B,i+1,Lw⟩=LH) (by kernel_rfl) (by kernel_rfl) ⟨A,x⟩ (λhHeld=>?_);simp only[LX,Mj,Ms,NA,Mn,MF,MG,MZ,Mu,Mk];refine tk 0 (h:=tk 1 (h:=tk 2 (h:=tk 3 (h:=tk 4 (h:=tk 5 (h:=tk 6 (h:=tk 7 (h:=tk 8 (h:=?_)))))))));try go_frame
   refine rdc 9 λK n=>?_;go_simp;refine n.out _ _ (by first | exact hHeld | exact⟨A,x⟩ | exact l _ rfl) (λhHeld=>?_);clear n K;try go_frame
   refine tk 10 (h:=?_);try go_frame
   refine rdc 11 λK n=>?_;go_simp;refine n.out _ _ (by first | exact hHeld | exact⟨A,x⟩ | exact l _ rfl) (λhHeld=>?_);clear n K;try go_frame
   refine⟨by kernel_rfl,?_⟩;simp only[MQ,Nu];go_upto_region 26 with(fail);refine kg (λu=>McI P u M B (jd i (K,D) s) (.slice oa om oc) q) (by rw[N.2];exact S) (λu p=>?_);have O:=Lu p;have⟨Y,X,W,V,U,k⟩:=BK a7;have c:=p.s;rw[k] at c;have b0:=aa c (o:=0) (v:=.int .i64 Y) rfl;have b1:=aa c (o:=1) (v:=.int .i64 X) rfl;have b2:=aa c (o:=2) (v:=.int .i64 W) rfl;have b3:=aa c (o:=3) (v:=.int .i64 V) rfl;have b4:=aa c (o:=4) (v:=.int .i64 U) rfl;have⟨vl,r⟩:=p.m.look q a7;obtain⟨kn,a8⟩:∃kn,kn=jd i (K,D) s:=⟨_,rfl⟩;rw[<- a8] at r O HI I;have⟨k0,h8⟩:=aS a8 k;clear p c a8 hHeld;obtain⟨K1,C⟩:=kn;dsimp only at r I;by_cases e:q∈K1
   ·rw[decide_eq_true e,k] at r;have H:(RL 120 (.map (Lq M)) (.agg #[Y,X,W,V,U]) LG).run Ya u=.ok (.tuple #[vl,.bool LG]) u:=r;clear r k;have HV:=Lu (AL (kn:=(K1,C)) e);clear e;go_upto_region 30 with(fail);clear b0 b1 b2 b3 b4 H;clear ca A za x l S AB;have d:=O.out;have⟨j,f⟩:=HQ.out;have ca:=(cj d.s j f).fst;have A:=(cj d.s j f).snd;have za:=aB d.s (o:=i);have x:=aB d.s (o:=i+1);have l:=Lu (cj d.s j f).mid;have S:=Lu (d.swap hM b6 j f);have AB:=Lu (Mm j f);clear d j f;go_wp2_with (fail);refine bn 12 (λy=>y.cell? ⟨B,i+1,Lw⟩=Lq (.int .i64 a)/\y.frozen? ⟨B,i+1,Lw⟩=LH) (by kernel_rfl) (by kernel_rfl) ⟨A,x⟩ (λhHeld=>?_);simp only[LX,Mj,Ms,NA,Mn,MF,MG,MZ,Mu,Mk];refine tk 0 (h:=tk 1 (h:=tk 2 (h:=tk 3 (h:=tk 4 (h:=tk 5 (h:=tk 6 (h:=tk 7 (h:=tk 8 (h:=?_)))))))));try go_frame
    refine rdc 9 λK n=>?_;go_simp;refine n.out _ _ (by first | exact hHeld | exact⟨A,x⟩ | exact l _ rfl) (λhHeld=>?_);clear n K;try go_frame
    refine tk 10 (h:=?_);try go_frame
    refine rdc 11 λK n=>?_;go_simp;refine n.out _ _ (by first | exact hHeld | exact⟨A,x⟩ | exact l _ rfl) (λhHeld=>?_);clear n K;try go_frame
    refine⟨by kernel_rfl,?_⟩;simp only[MQ,Nu];go_wp2;go_roundw
    case rel=>exact⟨i+1,by simp,by omega,by rw[lq,<- N.2,<- k0,HV];rw[N.1] at S;exact S⟩
    case measure=>simp[intOf];omega
   ·rw[decide_eq_false e,k] at r;have H:(RL 120 (.map (Lq M)) (.agg #[Y,X,W,V,U]) LG).run Ya u=.ok (.tuple #[vl,.bool LH]) u:=r;clear r;have⟨ob,s3,Z,e6⟩:=O.out.m.add q a7 e (T+1);rw[k] at Z;have d5:(NI 120 (.map (Lq M)) (.agg #[Y,X,W,V,U]) (.int .i64 (T+1))).run Ya u=.ok () (u.putObj M ob):=Z;have HV:=Lu (AM (kn:=(K1,C)) e);have p5:=Lu e6;clear Z k e e6;go_upto_region 29 with(fail);clear b0 b1 b2 b3 b4 H d5;refine kg (λu=>McI P u M B (K1++[q],C) (.slice oa om oc) q) (O.put hM rfl (p5 _ (Rb (LY hM O.g.size)))) (λu5 p=>?_);have k5:=Lu p;have k:=h8.out;have c:=p.s;rw[k] at c;have b0:=aa c (o:=0) (v:=.int .i64 Y) rfl;have b1:=aa c (o:=1) (v:=.int .i64 X) rfl;have b2:=aa c (o:=2) (v:=.int .i64 W) rfl;have b3:=aa c (o:=3) (v:=.int .i64 V) rfl;have b4:=aa c (o:=4) (v:=.int .i64 U) rfl;have r9:=p.g.size;clear p c k;go_upto_region 30 with(at_builtin;(refine TP _ (by rfl) _ _ _ (by rfl) P.heap.size 118 i0 _ 5 40 Tp.und121 n7 n6 n4 n3 rfl (by omega) (.slice oa om oc) C.length (gO C) (by rfl) (by exact k5.o.alloc _) ⟨u5.heap.size,0,Lw⟩ 1 1 [.int .i64 Y,.int .i64 X,.int .i64 W,.int .i64 V,.int .i64 U] (by rfl) (by rfl) (Of (cs:=#[Y,X,W,V,U]) (t:=118) (fr:=(0,0)) (LS u5 _)) (by simp[OV]) (by omega) (by unfold Qe;omega) (by omega) (by simp;omega) (u5.heap.size+1) (by simp) ?_);intro gi s9 u6 G L e5 s8;have p7:=Lu L;have p3:=Lu G;have p8:=Lu e5;clear L G e5);clear b0 b1 b2 b3 b4;have p6:=Lu (McI.push (m:=q) k5 hM p7 (by rw[h8];exact p3) p8);clear ca A za x l S AB;have d:=p6.out;have⟨j,f⟩:=HQ.out;have ca:=(cj d.s j f).fst;have A:=(cj d.s j f).snd;have za:=aB d.s (o:=i);have x:=aB d.s (o:=i+1);have l:=Lu (cj d.s j f).mid;have S:=Lu (d.swap hM b6 j f);have AB:=Lu (Mm j f);clear d j f;go_wp2_with (fail);refine bn 12 (λy=>y.cell? ⟨B,i+1,Lw⟩=Lq (.int .i64 a)/\y.frozen? ⟨B,i+1,Lw⟩=LH) (by kernel_rfl) (by kernel_rfl) ⟨A,x⟩ (λhHeld=>?_);simp only[LX,Mj,Ms,NA,Mn,MF,MG,MZ,Mu,Mk];refine tk 0 (h:=tk 1 (h:=tk 2 (h:=tk 3 (h:=tk 4 (h:=tk 5 (h:=tk 6 (h:=tk 7 (h:=tk 8 (h:=?_)))))))));try go_frame
    refine rdc 9 λK n=>?_;go_simp;refine n.out _ _ (by first | exact hHeld | exact⟨A,x⟩ | exact l _ rfl) (λhHeld=>?_);clear n K;try go_frame
    refine tk 10 (h:=?_);try go_frame
    refine rdc 11 λK n=>?_;go_simp;refine n.out _ _ (by first | exact hHeld | exact⟨A,x⟩ | exact l _ rfl) (λhHeld=>?_);clear n K;try go_frame
    refine⟨by kernel_rfl,?_⟩;simp only[MQ,Nu];go_wp2;go_roundw
    case rel=>exact⟨i+1,by simp,by omega,by rw[lq,<- N.2,<- k0,HV];rw[N.1] at S;exact S⟩
    case measure=>simp[intOf];omega
  ·obtain rfl:i=F:=by omega
   clear Q;go_wp2;refine HR _ _ wr rfl rfl ?_ HI.g HI.m HI.o;rw[<- HE.1,<- HE.2.1,<- HE.2.2.1,<- HE.2.2.2]
   repeat(refine NW.2 ⟨rfl,?_⟩)
   exact TB _
def ft(a:Ly)(K:Lx (Lx LJ))(L:Lx (Lx LJ)):Lx (Lx LJ) × Lx (Lx LJ):=L.foldl (jd a) (K,[])
def Cc(a:Ly)(K L:Lx (Lx LJ))(s:Lx LJ):ft a K (L++[s])=jd a (ft a K L) s:=by simp[ft]
def GX(n:Ly)(K L:Lx (Lx LJ)):zx n K L=ft (n - 1) K L:=rfl
def EH(a:Ly)(K:Lx (Lx LJ))(L:Lx (Lx LJ)):(ft a K L).2.length<=L.length*a:=by
 have c:∀(L:Lx (Lx LJ)) (b:Lx (Lx LJ) × Lx (Lx LJ)),(L.foldl (jd a) b).2.length<=b.2.length+L.length*a:=by
  intro L;induction L with
  | nil=>intro b;simp
  | cons s L d=>
   intro b;have f:=d (jd a b s);have e:=xE a b s;simp only[OI,LX,Sx];omega
 have:=c L (K,[]);rw[Mj,Mn] at this;exact this
def oE{c:Ly}{K L:Lx (Lx LJ)}(h:∀s∈L,s.length=5):∀s∈(ft c K L).2,s.length=5:=by
 have b:∀(L:Lx (Lx LJ)) (a:Lx (Lx LJ) × Lx (Lx LJ)),(∀s∈L,s.length=5)->(∀s∈a.2,s.length=5)->∀s∈(L.foldl (jd c) a).2,s.length=5:=by
  intro L;induction L with
  | nil=>intro a _ h;simpa using h
  | cons s L e=>intro a d g;exact e _ (λt f=>d t (by simp[f])) (Cd g (d s (by simp)))
 exact b L (K,[]) h (by simp)
def bCh:Lx Ly:=[0,1,2,3,4,5,6,7,8,9,10,12,13,14,15,16,17,18,23,24,25,26,27,28,29,30,31,32,33,34,35,36,37,38,39,40,41,42,43,44,45,46,47,48,49,50,51,52,53,54,55,56,57,58,59,60,61,62,116,117,118,119,120,121,122]
def IA:∀j∈(63::bCh),j∈cCh:=by decide
def JZ(z:LM LA)(hz:z.size=123)(d:Lt)(R:ON->Lt->Prop)(n c M:Ly)(A:LJ)(L K:Lx (Lx LJ))(pb nb:LU MN)(pc Z:Ly)(P:z[1]?=Lq (.slice pb n pc))(h9:z[9]?=Lq (.map (Lq M)))(O:z[11]?=Lq (.slice Lw 0 0))(N:z[12]?=Lq (.int .i64 A))(I:z[61]?=Lq (.slice nb L.length Z))(H:z[62]?=Lq (.int .i64 L.length))(G:z[63]?=Lq (.int .i64 0))(hn:n<=5)(l9:c=n - 1)(hM:M<d.heap.size)(hL:dA d (.slice nb L.length Z) L)(h5:∀s∈L,s.length=5)(hl:L.length<=1000)(hK:cP d M K)(a7:0<=A/\A<=100000)(hR:∀(f:LM LA) (i:LA) w,f.size=123->f[11]?=Lq i->Kp bCh z f->d.gb w (Lq M)->cP w M (ft c K L).1->w.ownsRow d.heap.size 118 5 i (ft c K L).2.length (gO (ft c K L).2)->R ⟨f,[]⟩ w) :mLB.wp Ya (QF 2 (eL R)) ⟨z,[]⟩ d:=by
 obtain⟨t,h,rfl⟩:=my z hz;have e1:=h 1 _ P;have e9:=h 9 _ h9;have S:=h 11 _ O;have v:=h 12 _ N;have r:=h 61 _ I;have q:=h 62 _ H;have Q:=h 63 _ G;clear h P h9 O N I H G;rw[e1,e9,S,v,r,q,Q];have W:=Lu (Mm e1 (Mm e9 (Mm v (Mm r q))));clear e1 e9 S v r q Q hz;have⟨HR,HL,HK,H5⟩:=dD hR hL hK h5;clear hR hL hK h5;simp only[mLB,Eh,wW,mX8,Sc,LQ,sqA,sqB,inn];go_wp2;go_loopw [11,63] (λnv iv wr=>∃k:Ly,iv=.int .i64 k/\k<=L.length/\d.gb wr (Lq M)/\cP wr M (ft c K (L.take k)).1/\wr.ownsRow d.heap.size 118 5 nv (ft c K (L.take k)).2.length (gO (ft c K (L.take k)).2)) (λ_ iv _=>(L.length - intOf iv).toNat)
 case atStart=>exact⟨0,rfl,by omega,Mf _ _,HK.out,OF _ _ _ _⟩
 case round=>
  obtain⟨k,rfl,hk,X,p,hO⟩:=hrel;have⟨Y,U,HO⟩:=bL X p hO;by_cases b0:k<L.length
  ·obtain⟨s,y⟩:∃s,L[k]?=Lq s:=⟨_,LO b0⟩;have a8:=H5.out s (Mh y);have D:=HL.out.keptM X (λcs fr=>HK.out.not _ _ _);obtain⟨B,o,rfl,b8,c0,c1,c2,c3,c4⟩:=D.at y;have g5:(k:LJ)<(L.length:LJ):=by omega
   have l8:IntKind.i64.wrap ((k:LJ)+1)=(k:LJ)+1:=MI _ (by omega);have l7:IntKind.i64.wrap ((n:LJ) - 1)=(n:LJ) - 1:=MI _ (by omega);have C:=EH c K (L.take k);rw[OX,UE hk] at C;have HS:=Lu y;obtain⟨a0,a1,a2,a3,a4,rfl⟩:=BK a8;clear X p hO D y;go_upto_region 22 with(fail);obtain⟨T,l⟩:∃T,T=wr.heap.size:=⟨_,rfl⟩;rw[<- l];refine kg (λu=>McI d u M T (ft c K (L.take k)) u11 [a0,a1,a2,a3,a4]) ⟨Y.andThen (Lr _ _ Lw) (by simp),U.kept ((Lr wr _ Lw).block M (by have:=Y.out.size;omega) (by simp)),HO.alloc _,λb e=>by have:=(HO.lt b e).2;omega,by rw[l];exact LS _ _⟩ (λu hI=>?_);have V:=Lu hI;have F:d.heap.size<=T:=by have:=Y.out.size;omega
   clear hI l c0 c1 c2 c3 c4 b8;go_wp2;all_goals
    refine Code.wp_mono (eH (R:=λa u=>∃x:Ly->LA,a=⟨#[t 0,.slice pb n pc,t 2,t 3,t 4,t 5,t 6,t 7,t 8,.map (Lq M),t 10,x 11,.int .i64 A,t 13,t 14,t 15,t 16,t 17,t 18,x 19,x 20,x 21,x 22,t 23,t 24,t 25,t 26,t 27,t 28,t 29,t 30,t 31,t 32,t 33,t 34,t 35,t 36,t 37,t 38,t 39,t 40,t 41,t 42,t 43,t 44,t 45,t 46,t 47,t 48,t 49,t 50,t 51,t 52,t 53,t 54,t 55,t 56,t 57,t 58,t 59,t 60,.slice (Lq ⟨B,o,Lw⟩) L.length Z,.int .i64 L.length,.int .i64 k,x 64,x 65,x 66,x 67,x 68,x 69,x 70,x 71,x 72,x 73,x 74,x 75,x 76,x 77,x 78,x 79,x 80,x 81,x 82,x 83,x 84,x 85,x 86,x 87,x 88,x 89,x 90,x 91,x 92,x 93,x 94,x 95,x 96,x 97,x 98,x 99,x 100,x 101,x 102,x 103,x 104,x 105,x 106,x 107,x 108,x 109,x 110,x 111,x 112,x 113,x 114,x 115,t 116,t 117,t 118,t 119,t 120,t 121,t 122],[]⟩/\d.gb u (Lq M)/\cP u M (ft c K (L.take (k+1))).1/\u.ownsRow d.heap.size 118 5 (x 11) (ft c K (L.take (k+1))).2.length (gO (ft c K (L.take (k+1))).2)) ?_) ?_;rotate_left
    ·refine jL (c':=mLC) (by simp only[mLC,mB3,mLB,Eh,wW,mX8,Sc,LQ,sqA,sqB,inn]) ?_;refine JY _ rfl d u _ c M T A [a0,a1,a2,a3,a4] (ft c K (L.take k)).1 (ft c K (L.take k)).2 u11 rfl rfl rfl rfl (congrArg Lq (congrArg (Mp .i64) (by omega))) rfl (by omega) rfl hM F V.s V.g V.m V.o V.n (by have:k*c<=1000*4:=Nat.mul_le_mul (by omega) (by omega);omega) a7 (oE λs y=>H5 s (QD y)) ?_;intro f i w b1 b2 b3 b4 b5 b6;rw[show(ft c K (L.take k)).1=(ft c K (L.take k)).1 from rfl] at b5;have hT:jd c ((ft c K (L.take k)).1,(ft c K (L.take k)).2) [a0,a1,a2,a3,a4]=ft c K (L.take (k+1)):=by rw[Np,HS];exact(Cc _ _ _ _).symm
     rw[hT] at b5 b6;refine⟨λj=>f[j]?.getD LI,congrArg (λz=>(⟨z,[]⟩:ON)) ((Et (63::bCh) _ f b1 (λj hj=>b3 j (IA j hj))).trans ?_),b4,b5,?_⟩
     ·rfl
     ·show w.ownsRow _ _ _ (f[11]?.getD LI) _ _;rw[b2];exact b6
    ·rintro a u2 ⟨x,rfl,g1,g2,g3⟩;have⟨G1,G2,G3⟩:=bL g1 g2 g3;clear g1 g2 g3;go_wp2;go_roundw
     case rel=>exact⟨k+1,by simp,by omega,G1,G2,G3⟩
     case measure=>simp[intOf];omega
  ·obtain rfl:k=L.length:=by omega
   clear X p hO;go_wp2;have P:=U.out;have h2:=HO.out;rw[NH] at P h2;refine HR _ _ wr rfl rfl ?_ Y P h2;rw[<- W.1,<- W.2.1,<- W.2.2.1,<- W.2.2.2.1,<- W.2.2.2.2]
   repeat(refine NW.2 ⟨rfl,?_⟩)
   exact TB _
def JM(a:Lx Par)(b:MC × Lx LJ)(s:Lx LJ):MC × Lx LJ:=if aL a (pre Par.mx a a.length) (bP s)=LG then(LG,if b.1=LG/\rB (bP s) b.2=LH then b.2 else bP s) else b
def zJ(a:Lx Par)(L:Lx (Lx LJ))(s:Lx LJ):dO a (L++[s])=JM a (dO a L) s:=by rw[dO,Rs];rfl
def aKl:Lx Ly:=[0,1,2,3,4,5,6,7,8,9,10,11,12,13,14,15,18,19,20,21,22,23,24,25,26,27,28,29,30,31,32,33,34,35,36,37,38,39,40,41,42,56,57,58,59,60,61,62,63,64,65,66,67,68,69,70,71,72,73,74,75,76,77,78,79,80,81,82,83,84,85,86,87,88,89,90,91,92,93,94,95,96,97,98,99,100,101,102,103,104,105,106,107,108,109,110,111,112,113,114,115,116,117,118,119,120,121,122]
def Ka(z:LM LA)(hz:z.size=123)(H:Lt)(R:ON->Lt->Prop)(Yb r:Ly)(a:Lx Par)(p:LJ)(pv:LA)(L:Lx (Lx LJ))(nb:LU MN)(nc:Ly)(h7:z[7]?=Lq (.pointer (Lq Yb)))(d7:z[13]?=Lq (.pointer (Lq r)))(d6:z[14]?=Lq (.func (.func 103) #[.pointer (Lq r)] #[]))(d5:z[41]?=Lq (.slice nb L.length nc))(c9:z[42]?=Lq (.int .i64 L.length))(c8:z[43]?=Lq (.int .i64 0))(hY:H.heap[Yb]?=Lq (.cells #[pv,p] 91 (0,0)))(hP:aC 0 r H pv a)(b9:H.heap[r]?=Lq (.cells #[.func (.func 99) #[] #[],.slice Lw 0 0,.bool LH] 108 (0,0)))(a6:YOk a p)(hL:dA H (.slice nb L.length nc) L)(N:L.all (okS a p)=LG)(hl:L.length<=1000)(hR:∀(z':LM LA) (C:LA) D,z'.size=123->Kp aKl z z'->H.gb D (Lq r)->D.heap[r]?=Lq (.cells #[.func (.func 99) #[] #[],C,.bool (dO a L).1] 108 (0,0))->ai 0 D.heap.size D C (dO a L).2->R ⟨z',[]⟩ D) :mLA.wp Ya (QF 0 (eL R)) ⟨z,[]⟩ H:=by
 obtain⟨t,P,rfl⟩:=my z hz;have e7:=P 7 _ h7;have U:=P 13 _ d7;have T:=P 14 _ d6;have S:=P 41 _ d5;have Q:=P 42 _ c9;have d9:=P 43 _ c8;clear P h7 d7 d6 d5 c9 c8;obtain⟨yb,yc,rfl,p5,-⟩:=hP.cell;rw[e7,U,T,S,Q,d9];have HE:=Lu (Mm e7 (Mm U (Mm T (Mm S Q))));clear e7 U T S Q d9 hz;have⟨HR,HY,HP,G,e6,HL⟩:=sr hR hY hP b9 a6 hL;have HA:=Lu (MD.1 N);clear hR hY hP b9 a6 hL N;simp only[mLA,wW,mX8,Sc,LQ,sqA,sqB,inn];go_wp2;go_loopw [43] (λiv wr=>∃(k:Ly) (C:LA),iv=.int .i64 k/\k<=L.length/\H.gb wr (Lq r)/\wr.heap[r]?=Lq (.cells #[.func (.func 99) #[] #[],C,.bool (dO a (L.take k)).1] 108 (0,0))/\ai 0 wr.heap.size wr C (dO a (L.take k)).2) (λiv _=>(L.length - intOf iv).toNat)
 case atStart=>exact⟨0,_,rfl,by omega,Mf _ _,G,ai.nil _ _ _⟩
 case round=>
  obtain⟨k,C,rfl,hk,hG,hB,hI⟩:=hrel;have⟨HG,HB,HI⟩:=bL hG hB hI;by_cases h8:k<L.length
  ·obtain⟨s,hs⟩:∃s,L[k]?=Lq s:=⟨_,LO h8⟩;have I:=HA.out s (Mh hs);have⟨g9,Z⟩:=kE I;have b8:=HL.out.keptM hG (λcs fr e=>by rw[G] at e;injection e with e;injection e with _ e _;exact absurd e (by decide));obtain⟨B,o,rfl,k6,c0,c1,c2,c3,c4⟩:=b8.at hs;have m6:(k:LJ)<(L.length:LJ):=by omega
   have p6:IntKind.i64.wrap ((k:LJ)+1)=(k:LJ)+1:=MI _ (by omega);have⟨HS,V⟩:=aS hs Z;obtain⟨n,j,i,g,f,rfl⟩:=BK g9;clear hG hB hI b8 hs I Z;go_upto_region 13 with(fail);obtain⟨X,hX⟩:∃X,X=wr.heap.size:=⟨_,rfl⟩;rw[<- hX];refine kg (λu=>(H.gb u (Lq r)/\u.heap[r]?=Lq (.cells #[.func (.func 99) #[] #[],C,.bool (dO a (L.take k)).1] 108 (0,0))/\ai 0 u.heap.size u C (dO a (L.take k)).2)/\u.heap[X]?=Lq (.cells #[n,j,i,g,f] 118 (0,0))) ⟨⟨HG.andThen (Lr _ _ Lw) (by simp),aD HB,(HI.alloc _).mono (LC _) (by rw[Mc];omega)⟩,by rw[hX];exact LS _ _⟩ (λu hF=>?_);obtain⟨⟨f1,f2,f3⟩,W⟩:=hF;have⟨F1,F2,F3⟩:=bL f1 f2 f3;have b0:=aa W (o:=0) (v:=.int .i64 n) rfl;have b1:=aa W (o:=1) (v:=.int .i64 j) rfl;have b2:=aa W (o:=2) (v:=.int .i64 i) rfl;have b3:=aa W (o:=3) (v:=.int .i64 g) rfl;have b4:=aa W (o:=4) (v:=.int .i64 f) rfl;have M:=Em [n,j,i,g,f] rfl;have O:=Lu (show ∀w,MH Ya 113 #[.agg #[n,j,i,g,f]] w λe D=>∃v,e=.returned v/\w.gb D Lw/\ai w.heap.size D.heap.size D v (bP [n,j,i,g,f]) from M);have b:=Lu (show dO a (L.take k++[[n,j,i,g,f]])=if aL a (pre Par.mx a a.length) (bP [n,j,i,g,f])=LG then(LG,if(dO a (L.take k)).1=LG/\rB (bP [n,j,i,g,f]) (dO a (L.take k)).2=LH then(dO a (L.take k)).2 else bP [n,j,i,g,f]) else dO a (L.take k) from zJ a (L.take k) [n,j,i,g,f]);have e4:=Lu (show L.take k++[[n,j,i,g,f]]=L.take (k+1) by rw[Np,HS];rfl);generalize bP [n,j,i,g,f]=l at V O b;clear f1 f2 f3 W c0 c1 c2 c3 c4 k6 M hX;go_upto_region 14 with(go_at_call 113;refine(O _).mono ?_;rintro e w2 ⟨v,rfl,b6,a7⟩;have d:=Lu b6;have y:=Lu (a7.mono (Mw _) (LC _));clear b6 a7);clear b0 b1 b2 b3 b4;obtain⟨vb,vc,rfl,-,-⟩:=y.out.cell;have gY:=F1.out.andThen d (by simp);have y2:=blk gY (λe=>by cases e;have h:=HY.out;rw[G] at h;injection h with h;injection h with _ h _;exact absurd h (by decide)) HY;have y0:=aa y2 (o:=0) rfl;have y1:=aa y2 (o:=1) rfl;have e5:=Lu ((HP.kept gY (λR e=>by cases e;exact .inr (LC _))).mono (LC _) (Wa (LY (aH G) gY.size)));have GY:=Lu gY;clear gY y2;cases hst:aL a (pre Par.mx a a.length) l with
   | false=>
    have x:=Lu hst;clear hst;go_wp2_with (go_at_call 114;refine(As 0 _ _ _ a p l w2 ⟨_,rfl,e5⟩ y (LC _) e6 V).mono ?_;rintro e w3 ⟨rfl,q⟩;rw[x];have c:=Lu q;clear q);go_roundw
    case rel=>
     rw[e4,if_neg (by rw[x];simp)] at b;have F:=d.out.t c;refine⟨k+1,C,by simp,by omega,F1.andThen F (by simp),?_,?_⟩
     ·rw[b];exact bk F F2
     ·rw[b];exact(F3.kept F).mono (LC _) F.size
    case measure=>simp[intOf];omega
   | true=>
    have x:=Lu hst;clear hst;go_wp2_with (first
     | (go_at_call 114;refine(As 0 _ _ _ a p l w2 ⟨_,rfl,e5⟩ y (LC _) e6 V).mono ?_;rintro e w3 ⟨rfl,q⟩;rw[x];have c:=Lu q;clear q)
     | (go_at_call 103;refine(AQ r (dO a (L.take k)).1 C _ (dO a (L.take k)).2 l w3 (bk (d.t c) F2) ((F3.kept (d.t c)).mono (LC _) (d.t c).size) ((y.kept c).mono (LC _) c.size)).mono ?_;rintro e w4 ⟨rfl,a8,Y⟩;have A:=Lu a8;have k9:=Lu Y;clear a8 Y))
    go_roundw
    case rel=>
     rw[e4,if_pos x.out] at b;have F:=d.out.t c;have b7:=bk F F2;refine⟨k+1,_,by simp,by omega,(F1.andThen F (by simp)).t A,by rw[b];exact k9,?_⟩;rw[b];dsimp only;split
     ·exact(((F3.kept F).mono (LC _) F.size).keptT A b7 (by decide)).mono (LC _) A.size
     ·exact(((y.kept c).mono (LC _) c.size).keptT A b7 (by decide)).mono (LC _) A.size
    case measure=>simp[intOf];omega
  ·obtain rfl:k=L.length:=by omega
   clear hG hB hI;go_wp2;have h1:=HB.out;have h2:=HI.out;rw[NH] at h1 h2;refine HR _ _ wr rfl ?_ HG h1 h2;rw[<- HE.1,<- HE.2.2.1,<- HE.2.1,<- HE.2.2.2.1,<- HE.2.2.2.2]
   repeat(refine NW.2 ⟨rfl,?_⟩)
   exact TB _
def Ey{w a:Lt}(h:w.gb a Lw)(r:LU Ly):w.gb a r:=⟨h.os,h.tape,h.output,h.size,λk b _=>h.block k b (by simp)⟩
def MJ(d:Lx Par)(b:LJ)(w0:Lt)(g:LU MN)(n e h:Ly)(c:LA)(o:LU (LJ × Lx LJ))(a:ON)(w:Lt):Prop :=
 ∃(z:LM LA) (Yb M st f:Ly) (K now:Lx (Lx LJ)) (nb:LU MN) (nc:Ly),a=⟨z,[]⟩/\z.size=123/\z[1]?=Lq (.slice g n e)/\z[7]?=Lq (.pointer (Lq Yb))/\z[9]?=Lq (.map (Lq M))/\z[10]?=Lq (.slice nb now.length nc)/\z[11]?=Lq (.slice Lw 0 0)/\z[12]?=Lq (.int .i64 st) /\
  st+f=h/\qP d b n f K now st=Lq o/\cP w M K/\w0.heap.size<=M/\dA w (.slice nb now.length nc) now/\w0.gb w Lw/\w.heap[Yb]?=Lq (.cells #[c,b] 91 (0,0))/\aC 0 w0.heap.size w c d
def Io(o:LU (LJ × Lx LJ))(z:LM LA)(w:Lt):Prop :=
 match o with
 | some (a,r)=>∃v,z[4]?=Lq (.int .i64 a)/\z[5]?=Lq v/\z[6]?=Lq (.int .i64 0)/\ai 0 w.heap.size w v r
 | none=>z[4]?=Lq (.int .i64 0)/\z[5]?=Lq (.slice Lw 0 0)/\z[6]?=Lq (.int .i64 11)
def si{w:Lt}{M:Ly}{c:LM Pv}{a:Ly}(b:LZ)(h:w.heap[M]?=Lq (.map c a)):(SD #[120] b #[.map (Lq M)]).run Ya w=.ok (.tuple #[]) (w.putObj M (.map #[] a)):=by
 simp[SD,NF,SN Tp.und120,getObj,setObj,Nm,h,RF,XQ]
def FW(a:ON):LJ:=intOf (a.tmps.getD 12 LI)
def Ib(H:Lx Par)(B:LJ)(w0 w:Lt)(V:LU MN)(n U f0:Ly)(pv:LA)(o:LU (LJ × Lx LJ))(a:ON)(Q:SS->ON->Lt->Prop)(hJ:MJ H B w0 V n U f0 pv o a w)(l6:YOk H B)(hn:n<=5)(hf:f0<=1000)(hQ:∀(b:LM LA) L,b.size=123->Io o b L->w0.gb L Lw->Q .ret ⟨b,[]⟩ L) :mX8.wp Ya (Vg 0 (λa' L=>MJ H B w0 V n U f0 pv o a' L/\(f0 - FW a').toNat<(f0 - FW a).toNat) Q) a w:=by
 obtain⟨z,Yb,M,P,f,K,c,nb,nc,rfl,hz,h1,h7,h9,e6,e5,e4,s4,hm,hM,h,hN,hG,hY,hP⟩:=hJ;obtain⟨t,N,rfl⟩:=my z hz;have e1:=N 1 _ h1;have e7:=N 7 _ h7;have e9:=N 9 _ h9;have g7:=N 10 _ e6;have g6:=N 11 _ e5;have g5:=N 12 _ e4;clear N h1 h7 h9 e6 e5 e4 hz;obtain⟨yb,yc,rfl,s2,-⟩:=hP.cell;rw[e1,e7,e9,g7,g6,g5];clear e1 e7 e9 g7 g6 g5;cases f with
 | zero=>cases hm
 | succ f=>
  unfold qP at hm;split at hm
  ·rename_i g
   obtain⟨g,hl⟩:=g;have⟨i,HQ,G,HM,HN,HG,HY,HP⟩:=GI g hQ hm hM hN hG hY hP;have m3:M<w.heap.size:=by obtain⟨es,cl,e,-⟩:=hM;exact aH e
   clear hQ hm hM hN hG hY hP g;simp only[mX8,Sc,LQ,sqA,sqB,inn];have s5:∀(a:MN) (fn:Fn) (x y:LM LA) (m:Mode) (w:Lt),(store a (.func fn x y) m).run Ya w=stored Ya w a (.func fn x y) m:=λa fn x y m w=>run_store _ w a _ m rfl;go_upto_region 10 with(fail);obtain⟨F,C⟩:∃F,F=w.heap.size:=⟨_,rfl⟩;rw[<- C];have O:=Lr w (.cells #[.func (.func 99) #[] #[],.slice Lw 0 0,.bool LH] 108) Lw;have v2:=Lu O;refine kg (λu=>(w.gb u Lw/\u.heap[F]?=Lq (.cells #[.func (.func 99) #[] #[],.slice Lw 0 0,.bool LH] 108 (0,0)))) ⟨O,by rw[C];exact LS _ _⟩ (λu hF=>?_);obtain⟨g1,T⟩:=hF;have⟨G1,B1,n4⟩:=bL g1 T C;have t6:M<F:=by omega
   have c3:w0.heap.size<=F:=by have:=HG.out.size;omega
   clear g1 T O C;go_upto_region 17 with(fail);refine Code.wp_mono (eH (R:=λa u2=>∃(b:LM LA) (bv:LA),a=⟨b,[]⟩/\b.size=123/\b[1]?=Lq (.slice V n U)/\b[7]?=Lq (.pointer (Lq Yb))/\b[9]?=Lq (.map (Lq M))/\b[10]?=Lq (.slice nb c.length nc)/\b[11]?=Lq (.slice Lw 0 0)/\b[12]?=Lq (.int .i64 P)/\b[13]?=Lq (.pointer (Lq F)) /\
    u.gb u2 (Lq F)/\u2.heap[F]?=Lq (.cells #[.func (.func 99) #[] #[],bv,.bool (dO H c).1] 108 (0,0))/\ai 0 u2.heap.size u2 bv (dO H c).2) ?_) ?_
   rotate_left
   ·refine jL (c':=mLA) (by simp only[mLA,wW,mX8,Sc,LQ,sqA,sqB,inn]) ?_;refine Ka _ rfl u _ Yb F H B (.slice yb H.length yc) c nb nc rfl rfl rfl rfl rfl rfl (bk G1 HY) ((HP.kept G1).mono (LC _) c3) B1 l6 (HN.keptM (M:=M) (Ey G1 _) (λcs fr=>HM.not _ _ _)) i hl ?_;intro b bv L T D S b4 b5;exact⟨b,bv,rfl,T,D 1 (by decide),D 7 (by decide),D 9 (by decide),D 10 (by decide),D 11 (by decide),D 12 (by decide),D 13 (by decide),S,b4,b5⟩
   ·rintro a u2 ⟨b,bv,rfl,r,k1,Y,X,a6,l,k,Z,f1,f2,I⟩;obtain⟨t2,d,rfl⟩:=my b r;have j1:=d 1 _ k1;have j7:=d 7 _ Y;have j9:=d 9 _ X;have b8:=d 10 _ a6;have q:=d 11 _ l;have p:=d 12 _ k;have b7:=d 13 _ Z;clear d k1 Y X a6 l k Z;rw[j1,j7,j9,b8,q,p,b7];clear j1 j7 j9 b8 q p b7 r;obtain⟨bb,bc,rfl,-,-⟩:=I.cell;have d5:w.gb u2 Lw:=jV G1 f1 (by rw[n4];exact LC _);have c1:=aa f2 (o:=1) rfl;have c2:=aa f2 (o:=2) rfl;have⟨F3,A⟩:=aS I d5;have l9:M<u2.heap.size:=by have:=d5.size;omega
    have t1:=aH f2;clear f1 f2 I;cases hb:(dO H c).1 with
    | true=>
     rw[if_pos hb] at G;rw[hb] at c2;clear hb;go_wp2_with (fail);go_quiet (fail);go_wp2;simp only[Vg];have hm:=G.out;cases hm;exact HQ _ _ rfl ⟨_,rfl,rfl,rfl,(F3.kept (ay _ _ Lw)).mono (LC _) (LC _)⟩ ((HG.t A).t (ay _ _ Lw))
    | false=>
     rw[if_neg (by rw[hb];simp)] at G;rw[hb] at c2;clear hb;have d9:cP u2 M K:=HM.out.kept (A.block M m3 (by simp));have d8:dA u2 (.slice nb c.length nc) c:=HN.out.keptM (M:=M) (Ey A _) (λcs fr=>HM.not _ _ _);have⟨m5,l8⟩:=aS d9 d8;clear d9 d8;go_upto_region 33 with(fail);refine Code.wp_mono (eH (R:=λa u3=>∃(b:LM LA) (W:LA),a=⟨b,[]⟩/\b.size=123/\b[1]?=Lq (.slice V n U)/\b[7]?=Lq (.pointer (Lq Yb))/\b[9]?=Lq (.map (Lq M))/\b[11]?=Lq W/\b[12]?=Lq (.int .i64 P) /\
      u2.gb u3 (Lq M)/\cP u3 M (ft (n - 1) K c).1/\u3.ownsRow u2.heap.size 118 5 W (ft (n - 1) K c).2.length (gO (ft (n - 1) K c).2)) ?_) ?_
     rotate_left
     ·refine jL (c':=mLB) (by simp only[mLB,Eh,wW,mX8,Sc,LQ,sqA,sqB,inn]) ?_;refine JZ _ rfl u2 _ n (n - 1) M P c K V nb U nc rfl rfl rfl rfl rfl rfl rfl hn rfl l9 l8 (λs hs=>(kE (MD.1 i s hs)).1) hl m5 (by omega) ?_;intro b W L T D S b4 b5 b6;exact⟨b,W,rfl,T,S 1 (by decide),S 7 (by decide),S 9 (by decide),D,S 12 (by decide),b4,b5,b6⟩
     ·rintro a u3 ⟨b,W,rfl,r,k1,Y,X,l,k,f1,f2,I⟩;obtain⟨t3,j,rfl⟩:=my b r;have j1:=j 1 _ k1;have j7:=j 7 _ Y;have j9:=j 9 _ X;have q:=j 11 _ l;have p:=j 12 _ k;clear j k1 Y X l k;rw[j1,j7,j9,q,p];clear j1 j7 j9 q p r c1 c2;obtain⟨s1,r6,r8,rfl⟩:=cF I;have⟨F1,F2⟩:=aS f1 f2;have hS:=dA.own I (oE λs hs=>(kE (MD.1 i s hs)).1);obtain⟨r9,r7,e3,-⟩:=hS;cases e3;have HS:=Lu (dA.own I (oE λs hs=>(kE (MD.1 i s hs)).1));have hm:=G.out;rw[GX] at hm;have s3:IntKind.i64.wrap ((P:LJ)+1)=(P:LJ)+1:=MI _ (by omega);have d6:w0.gb u3 Lw:=jV (HG.t A) F1 h;have d7:w.gb u3 (Lq M):=(Ey A _).t F1;have⟨h8,k0⟩:=aS d6 d7;clear f1 f2 I d6 d7;split at hm
      ·rename_i s7
       split at hm
       ·rename_i v
        cases hm;rw[v];obtain⟨es,cl,c9,-⟩:=F2.out;have s8:=si 0 c9;clear c9;go_wp2;simp only[Vg];exact HQ _ _ rfl ⟨rfl,rfl,rfl⟩ (jV h8 (Pi _ _ _) h)
       ·rename_i v
        have n9:(0:LJ)<((ft (n - 1) K c).2.length:LJ):=by
         have:=Pr.2 v;omega
        have n3:=Lu hm;clear hm;go_wp2;go_step3;have m4:Yb≠M:=λe=>by rw[e] at HY;exact HM.not _ _ _ HY
        refine⟨rfl,⟨_,Yb,M,P+1,f,_,_,_,_,rfl,rfl,rfl,rfl,rfl,rfl,rfl,by simp,by omega,by simpa using n3.out,F2,h,HS,h8,blk k0 (by simpa using m4) HY,HP.kept k0 (λR e=>by cases e;exact .inr h)⟩,?_⟩;simp[FW,intOf];omega
      ·cases hm
  ·cases hm
def Ip(w0:Lt)(o:LU (LJ × Lx LJ))(e:Ending)(a:Lt):Prop :=
 w0.gb a Lw/\match o with
 | some (b,r)=>∃v,e=.returned (.tuple #[b,v,.int .i64 0])/\ai 0 a.heap.size a v r
 | none=>e=.returned (.tuple #[.int .i64 0,.slice Lw 0 0,.int .i64 11])
def BN{l:Ly}{J c:ON->Lt->Prop}{Q:SS->ON->Lt->Prop}(h:∀a w,J a w->c a w):∀e a w,Vg l J Q e a w->Vg l c Q e a w:=by
 intro e a w b;cases e with
 | goto d=>exact⟨b.1,h _ _ b.2⟩
 | _=>exact b
def wU{w b:Lt}{o:LU (LJ × Lx LJ)}{z:LM LA}(n:z.size=123)(k:Io o z b)(j:w.gb b Lw):bodyPost Ya Sc (λe b=>Ip w o e b) .ret ⟨z,[]⟩ b:=by
 obtain⟨t,a,rfl⟩:=my z n;cases o with
 | none=>
  obtain⟨f,d,c⟩:=k;have i:=a 4 _ f;have h:=a 5 _ d;have g:=a 6 _ c;rw[i,h,g];exact Ot (v:=.tuple #[.int .i64 0,.slice Lw 0 0,.int .i64 11]) (by simp[Om,Xf,go_sem]) rfl ⟨j,rfl⟩
 | some p=>
  obtain⟨l,r⟩:=p;obtain⟨v,f,d,c,q⟩:=k;have i:=a 4 _ f;have h:=a 5 _ d;have g:=a 6 _ c;rw[i,h,g];exact Ot (v:=.tuple #[l,v,.int .i64 0]) (by simp[Om,Xf,go_sem]) rfl ⟨j,v,rfl,q⟩
def Gx(pv qv:LA)(g:Lx Par)(b:LJ)(l:Lx LJ)(w:Lt)(hP:aC 0 w.heap.size w pv g)(hI:ai 0 w.heap.size w qv l)(T:YOk g b)(hp:POk g b l)(q:Ly)(hf:q<=1000)(o:LU (LJ × Lx LJ))(hm:qP g b l.length q [cm l] [cm l] 0=Lq o) :MH Ya 54 #[.agg #[pv,b],qv] w λe w'=>Ip w o e w':=by
 obtain⟨O,N,rfl,n3,-⟩:=hP.cell;obtain⟨pb,pc,rfl,-,-⟩:=hI.cell;have n7:=hp.len;have⟨HP,HI,H,e9,HM⟩:=oC hP hI T hp hm;clear hP hI T hp hm;go_enter Tp.x54,Tryz.ntmps54;have c:l.length<=5:=by
  cases q with
  | zero=>cases HM
  | succ f=>
   have h:=HM.out;unfold qP at h;split at h
   ·rename_i h1
    have:=(kE (MD.1 h1.1 (cm l) (by simp))).1;unfold cm at this;rw[Na] at this;omega
   ·cases h
 go_wp2;refine wp_scope_jumps 0 (MJ g b w pb l.length pc q (.slice O g.length N) o) (λa _=>(q - FW a).toNat) rfl ?_ ?_
 ·go_upto_region 4 with(go_at_call 81;refine(fA 0 w.heap.size _ _ g b l _ (HP.kept (Lr _ _ Lw)) (HI.kept (Lr _ _ Lw)) (by simp) H e9).mono ?_;rintro e w2 ⟨rfl,Y⟩;have a6:=Lu ((Lr w (.cells #[.slice O g.length N,b] 24) Lw).t Y);clear Y);obtain⟨L,C⟩:∃L,L=w2.heap.size:=⟨_,rfl⟩;rw[<- C];refine kg (λu=>w.gb u Lw/\u.heap[L]?=Lq (.cells #[.slice O g.length N,b] 91 (0,0))) ⟨a6.t (Lr _ _ Lw),by rw[C];exact LS _ _⟩ (λu Z=>?_);obtain⟨g3,y3⟩:=Z;have⟨G3,Y3⟩:=aS g3 y3;clear g3 y3 C a6;obtain⟨M,k⟩:∃M,M=u.heap.size:=⟨_,rfl⟩;have p:cP (u.alloc (.map #[] 0)) M []:=cP.nil (by rw[k];exact LS u (.map #[] 0));have r:=Lu p;have j:u.gb (u.alloc (.map #[] 0)) Lw:=Lr _ _ Lw;have h8:=Lu j;have D:M<(u.alloc (.map #[] 0)).heap.size:=by rw[k,Mc];omega
  have h5:=lU c;have⟨x0,x1,x2,x3,x4,Q⟩:=BK h5;have G:=Lu Q;have d7:(TY 120 Lw).run Ya u=.ok (.map (Lq M)) (u.alloc (.map #[] 0)):=by rw[k];rfl
  clear p h5 Q;go_upto_region 5 with(go_at_call 112;refine(oO 0 _ _ l _ ((HI.kept (G3.t j)).mono (LC _) (G3.t j).size) c).mono ?_;rintro e w5 ⟨rfl,A⟩;have I:=Lu A;have U:=r.out.kept (A.block M D (by simp));have⟨ob,n6,y,W⟩:=U.add (cm l) (lU c) (by simp) 0;have g5:=Lu W;clear W A U;rw[G] at y ⊢;have S:(NI 120 (.map (Lq u.heap.size)) (.agg #[x0,x1,x2,x3,x4]) (.int .i64 0)).run Ya w5=.ok () (w5.putObj M ob):=k ▸ y;clear y;unfold A5);rw[<- k];have X:M<w5.heap.size:=LY D I.size;have R:w.heap.size<=M:=by have:=G3.out.size;omega
  refine kg (λv=>w.gb v Lw/\v.heap[L]?=Lq (.cells #[.slice O g.length N,b] 91 (0,0))/\cP v M [cm l]) ⟨jV (G3.t (j.t I)) (Pi _ _ _) R,blk (Pi _ _ _) (λe=>by cases e;have:=aH Y3;omega) (bk (j.t I) Y3),g5 _ (Rb X)⟩ (λu6 Z=>?_);obtain⟨g6,y6,m6⟩:=Z;have⟨G6,Y6,M6⟩:=bL g6 y6 m6;have n4:=g6.size;clear g6 y6 m6 S d7 r j h8 D X k;go_upto_region 6 with(go_at_call 112;refine(oO 0 _ _ l _ ((HI.kept G6).mono (LC _) G6.size) c).mono ?_;rintro e P ⟨rfl,V⟩;have h9:=Lu V;clear V;rw[G];unfold A5);have z:=M6.out;have B:(P.alloc (.cells #[x0,x1,x2,x3,x4] 118)).heap[P.heap.size]?=Lq (.cells #[x0,x1,x2,x3,x4] 118 (0,0)):=LS P _;have n:=h9.out.t (Lr P (.cells #[x0,x1,x2,x3,x4] 118) Lw);have e6:M<u6.heap.size:=by obtain⟨es,cl,e,-⟩:=z;exact aH e
  obtain⟨B7,F⟩:∃B7,B7=P.heap.size:=⟨_,rfl⟩;rw[<- F] at B;rw[<- F];refine kg (λv=>w.gb v Lw/\v.heap[L]?=Lq (.cells #[.slice O g.length N,b] 91 (0,0))/\cP v M [cm l]/\dA v (.slice (Lq B7) [cm l].length 1) [cm l]) ⟨G6.t n,bk n Y6,z.kept (n.block M e6 (by simp)),_,_,rfl,λ_=>⟨B7,0,_,_,rfl,B,λi s hi d hd=>by
   rcases i with _ | i
   ·simp at hi;subst hi;rw[G];obtain rfl | rfl | rfl | rfl | rfl:d=0\/d=1\/d=2\/d=3\/d=4:=by omega
    all_goals rfl
   ·simp at hi⟩⟩ (λu8 Z=>?_)
  obtain⟨g8,y8,m8,s8⟩:=Z;have⟨G8,Y8,M8,S8⟩:=dD g8 y8 m8 s8;clear g8 y8 m8 s8 z B n F;go_wp2;refine wp_label ?_
  rename_i K hK
  refine hK _ _ ?_;refine jL (c':=mX8) (by simp only[mX8,Sc,LQ,sqB,inn]) ?_;refine Code.wp_mono (BN λa u h=>h.1) (Ib g b w u8 pb l.length pc q _ o _ _ ⟨_,L,M,0,q,[cm l],[cm l],_,_,rfl,rfl,rfl,rfl,rfl,rfl,rfl,rfl,by omega,HM,M8,R,S8,G8,Y8,HP.kept G8⟩ H c hf ?_);exact λz' w' x hR hg=>wU x hR hg
 ·rintro a u hJ;refine wp_seq ?_;refine wp_skip ?_;refine jL (c':=mX8) (by simp only[mX8,Sc,LQ,sqB,inn]) ?_;refine Ib g b w u pb l.length pc q _ o a _ hJ H c hf ?_;exact λz' w' x hR hg=>wU x hR hg
end
section
open Go.RowKit Go.Co
def iA(f g:Ly)(w:Lt)(v:LA)(n:Ly)(c:Ly->Ly->LJ):Prop :=
 ∃base a,v=.slice base n a/\(n:LJ)<=1000000/\(0<n->∃B o b e h,base=Lq ⟨B,o,Lw⟩/\f<=B/\B<g/\w.heap[B]?=Lq (.cells b e h)/\∀i,i<n->∀d,d<5->b[o+i*5+d]?=Lq (.int .i64 (c i d)))
def ovr(c g:Ly->LJ)(l:Lx LJ)(k:Ly):Ly->LJ:=λd=>if(d:LJ)∈l.take k then c d else g d
def wK(c g:Ly->LJ)(l:Lx LJ)(k n:Ly)(h:l[k]?=Lq (n:LJ))(d:Ly):ovr c g l (k+1) d=if d=n then c d else ovr c g l k d:=by
 unfold ovr;rw[Np,h];by_cases e:d=n
 ·subst e;simp
 ·have:¬ ((d:LJ)=n):=by omega
  simp[e,this]
def IQ(lo hi:Ly)(t:Ly->LA)(w0 w:Lt)(R:ON->Lt->Prop)(A V:Ly)(av vv:LA)(N i:Ly)(c:Ly->Ly->LJ)(f:Lx LJ)(o l:Ly)(g h:Ly->LJ)(h2:t 2=.pointer (Lq A))(hA:w0.cell? A=Lq av)(hC:iA lo hi w0 av N c)(h5:t 5=.pointer (Lq V))(I:w0.cell? V=Lq vv)(hI:ai lo hi w0 vv f)(h7:t 7=.int .i64 i)(e4:i<N)(h8:t 8=.pointer (Lq o))(h9:t 9=.pointer (Lq l))(hg:w0.gb w Lw)(b:w.heap[o]?=Lq (aR g))(a:w.heap[l]?=Lq (aR h))(d9:o≠l)(p5:w0.heap.size<=o)(p4:w0.heap.size<=l)(p3:hi<=w0.heap.size)(hx:∀x∈f,0<=x/\x<5)(hR:∀(d5 c9 c8 c3 b9 b8 b7 b6 b0 a8 a7 a6 Z Y X W U T S Q P O M L:LA) w',w0.gb w' Lw->w'.heap[o]?=Lq (aR (ovr (c i) g f f.length))->w'.heap[l]?=Lq (aR (ovr (c i) h f f.length)) ->R ⟨#[t 0,t 1,.pointer (Lq A),t 3,t 4,.pointer (Lq V),t 6,.int .i64 i,.pointer (Lq o),.pointer (Lq l),t 10,d5,t 12,t 13,t 14,t 15,t 16,t 17,t 18,t 19,t 20,t 21,t 22,t 23,t 24,c9,c8,c3,b9,b8,b7,b6,b0,a8,a7,a6,Z,Y,X,W,U,T,S,Q,P,O,M,L,t 48,t 49,t 50,t 51,t 52,t 53,t 54,t 55,t 56,t 57,t 58,t 59],[]⟩ w') :wR4.wp Ya (eL R) ⟨#[t 0,t 1,t 2,t 3,t 4,t 5,t 6,t 7,t 8,t 9,t 10,t 11,t 12,t 13,t 14,t 15,t 16,t 17,t 18,t 19,t 20,t 21,t 22,t 23,t 24,t 25,t 26,t 27,t 28,t 29,t 30,t 31,t 32,t 33,t 34,t 35,t 36,t 37,t 38,t 39,t 40,t 41,t 42,t 43,t 44,t 45,t 46,t 47,t 48,t 49,t 50,t 51,t 52,t 53,t 54,t 55,t 56,t 57,t 58,t 59],[]⟩ w:=by
 obtain⟨ab,ac,rfl,hN,F⟩:=hC;obtain⟨vb,vc,rfl,hq,D⟩:=hI.cell;obtain⟨AB,ao,q5,q2,q4,rfl,l6,l5,y,v⟩:=F (by omega);have⟨HR,HI,HX,HA,HV⟩:=oC hR D hx hA I;have HC:=Lu (Mm y v);have⟨g7,g6,HG⟩:=bL b a hg;have p8:A<w0.heap.size:=Vm hA;have p6:V<w0.heap.size:=Vm I;clear hR hI D F hx b a y v;rw[h2,h5,h7,h8,h9];clear h2 h5 h7 h8 h9;simp only[wR4,dU,Qp,LQ,sqA,sqB,inn];have v0:=hg.cl I;clear hA I hg;go_wp2;clear v0;go_loopw [27] (λiv wr=>∃k:Ly,iv=.int .i64 k/\k<=f.length/\w0.gb wr Lw/\wr.heap[o]?=Lq (aR (ovr (c i) g f k))/\wr.heap[l]?=Lq (aR (ovr (c i) h f k))) (λiv _=>(f.length - intOf iv).toNat)
 case atStart=>exact⟨0,rfl,by omega,HG,by rw[g7];first | (congr 1;done) | (congr 1;exact eZ λd _=>by simp[ovr]),by rw[g6];first | (congr 1;done) | (congr 1;exact eZ λd _=>by simp[ovr])⟩
 case round=>
  obtain⟨k,rfl,hk,s,b,a⟩:=hrel;have⟨H,B,z⟩:=bL s b a;have a0:=s.cl HA;have v0:=s.cl HV;have n8:=(Lz.1 b).1;have n7:=(Lz.1 a).1;have n6:=s.size;by_cases r:k<f.length
  ·obtain⟨VB,vo,rfl,l4,k9,k8,u⟩:=HI.out (by intro e;rw[e] at r;simp at r);have x0:=s.cl (u k r);obtain⟨x,q⟩:∃x,f[k]?=Lq x:=⟨_,LO r⟩;have⟨n4,n3⟩:=HX.out x (Mh q);rw[q] at x0;simp only[LQ] at x0;obtain⟨n,rfl⟩:∃n:Ly,x=n:=⟨x.toNat,by omega⟩;have p:n<5:=by omega
   have C:w0.cell? ⟨AB,ao+i*5+n,Lw⟩=Lq (.int .i64 (c i n)):=aa HC.1 (HC.2 i e4 n p);have c0:=s.cl C;have d1:=aA b p;have d2:=aA a p;have f1:=dC b;have f2:=dC a;have G:=Lu q;clear u q s b a C;go_upto_region 7 with(fail);have n9:(i:LJ)<(N:LJ):=by omega
   have k5:(n:LJ)<5:=by omega
   have R1:((wr.setCell ⟨o,n,Lw⟩ (.int .i64 (c i n))).setCell ⟨l,n,Lw⟩ (.int .i64 (c i n))).heap[o]?=Lq (aR (ovr (c i) g f (k+1))):=by
    refine(blk (an _ l _ _) (by simp;exact d9) (kA B p)).trans ?_
    congr 1
    exact eZ λd _=>by rw[wK _ _ _ _ n G];split<;>simp_all
   have R2:((wr.setCell ⟨o,n,Lw⟩ (.int .i64 (c i n))).setCell ⟨l,n,Lw⟩ (.int .i64 (c i n))).heap[l]?=Lq (aR (ovr (c i) h f (k+1))):=by
    refine(kA (blk (an _ o _ _) (by simp;omega) z) p).trans ?_
    congr 1
    exact eZ λd _=>by rw[wK _ _ _ _ n G];split<;>simp_all
   have RG:w0.gb ((wr.setCell ⟨o,n,Lw⟩ (.int .i64 (c i n))).setCell ⟨l,n,Lw⟩ (.int .i64 (c i n))).drew Lw :=
    ((H.andThen (row':=Lq o) (an _ _ _ _) (by rintro j e;cases e;exact .inl (by omega))).andThen (row':=Lq l) (an _ _ _ _) (by rintro j e;cases e;exact .inl (by omega))).t (ak _ _)
   have⟨g5,e9,e8⟩:=bL R1 R2 RG;clear R1 R2 RG;go_region_law (fail);all_goals
    clear a0 x0 c0 d1 d2 f1 f2;go_wp2;go_roundw
    case rel=>exact⟨k+1,by simp,by omega,e8,g5,e9⟩
    case measure=>simp[intOf];omega
  ·obtain rfl:k=f.length:=by omega
   clear s b a a0 v0;go_wp2;exact HR _ _ _ _ _ _ _ _ _ _ _ _ _ _ _ _ _ _ _ _ _ _ _ _ wr H B z
def IP(r q:Ly)(t:Ly->LA)(w0 w:Lt)(R:ON->Lt->Prop)(Y V:Ly)(yb:LU MN)(yc:Ly)(vv:LA)(c:Lx Par)(f:LJ)(l:Lx LJ)(B1 B2:Ly)(g h:Ly->LJ)(h4:t 4=.pointer (Lq Y))(z:w0.cell? Y=Lq (.slice yb c.length yc))(y:w0.cell? ⟨Y,1,Lw⟩=Lq (.int .i64 f))(hP:aC r q w0 (.slice yb c.length yc) c)(h6:t 6=.pointer (Lq V))(hV:w0.cell? V=Lq vv)(hI:ai r q w0 vv l)(h8:t 8=.pointer (Lq B1))(h9:t 9=.pointer (Lq B2))(p:w0.gb w Lw)(b:w.heap[B1]?=Lq (aR g))(A:w.heap[B2]?=Lq (aR h))(l5:q<=w0.heap.size)(o:c.length<=5)(hx:∀x∈l,0<=x/\x<c.length)(hl:l.length<=1000)(u:∀i,0<=g i/\g i<=1000)(s:∀i,0<=h i/\h i<=1000)(hR:∀(U T S Q P O N M L I:LA) w',w.gb w' Lw->R ⟨#[t 0,t 1,t 2,t 3,.pointer (Lq Y),t 5,.pointer (Lq V),t 7,.pointer (Lq B1),.pointer (Lq B2),t 10,t 11,t 12,t 13,t 14,t 15,t 16,t 17,t 18,t 19,t 20,t 21,t 22,t 23,t 24,t 25,t 26,t 27,t 28,t 29,t 30,t 31,t 32,t 33,t 34,t 35,t 36,t 37,t 38,t 39,t 40,t 41,t 42,t 43,t 44,t 45,t 46,t 47,U,T,S,Q,P,O,N,M,L,I,.bool (aL c g l && !aL c h l),t 59],[]⟩ w') :wR9.wp Ya (eL R) ⟨#[t 0,t 1,t 2,t 3,t 4,t 5,t 6,t 7,t 8,t 9,t 10,t 11,t 12,t 13,t 14,t 15,t 16,t 17,t 18,t 19,t 20,t 21,t 22,t 23,t 24,t 25,t 26,t 27,t 28,t 29,t 30,t 31,t 32,t 33,t 34,t 35,t 36,t 37,t 38,t 39,t 40,t 41,t 42,t 43,t 44,t 45,t 46,t 47,t 48,t 49,t 50,t 51,t 52,t 53,t 54,t 55,t 56,t 57,t 58,t 59],[]⟩ w:=by
 obtain⟨vb,vc,rfl,hq,-⟩:=hI.cell;have F:=Lu hR;have HI:=Lu (hI.kept p);have HP:=Lu (hP.kept p);have⟨HX,C,c9,d⟩:=dD hx u s A;have H:=p.cl z;have G:=p.cl y;have W:=p.cl hV;have l4:=p.size;have a0:=aA b (show 0<5 by omega);have a1:=aA b (show 1<5 by omega);have a2:=aA b (show 2<5 by omega);have a3:=aA b (show 3<5 by omega);have a4:=aA b (show 4<5 by omega);rw[h4,h6,h8,h9];have SC:=Lu (Mm H (Mm G W));clear hR hI hP hx u s A z y hV p h4 h6 h8 h9 b;simp only[wR9,dU,Qp,LQ,sqA,sqB,inn];obtain⟨Z,n⟩:∃Z,aL c g l=Z:=⟨_,rfl⟩;obtain⟨X,k⟩:∃X,aL c h l=X:=⟨_,rfl⟩;rw[n,k] at F;have⟨B,b7⟩:=aS n k;clear n k;cases Z
 ·go_wp2_with fail;refine(gG r q _ _ c f l g _ ⟨_,rfl,HP⟩ HI (by omega) o HX hl C).mono ?_;rintro e w5 ⟨rfl,a⟩;rw[B];have j:=Lu a;clear a H G W a0 a1 a2 a3 a4;go_wp2;exact F _ _ _ _ _ _ _ _ _ _ _ j
 ·go_wp2_with fail;refine(gG r q _ _ c f l g _ ⟨_,rfl,HP⟩ HI (by omega) o HX hl C).mono ?_;rintro e w5 ⟨rfl,a⟩;rw[B];have b0:=aA (bk a d) (show 0<5 by omega);have b1:=aA (bk a d) (show 1<5 by omega);have b2:=aA (bk a d) (show 2<5 by omega);have b3:=aA (bk a d) (show 3<5 by omega);have b4:=aA (bk a d) (show 4<5 by omega);have z0:=a.cl SC.1;have z1:=a.cl SC.2.1;have z2:=a.cl SC.2.2;have hz:=a.size;have b8:=Lu (HP.kept a);have c3:=Lu (HI.kept a);have j:=Lu a;clear a H G W a0 a1 a2 a3 a4;go_wp2_with fail;refine(gG r q _ _ c f l h _ ⟨_,rfl,b8⟩ c3 (by omega) o HX hl c9).mono ?_;rintro e w6 ⟨rfl,v⟩;rw[b7];have D:=Lu v;clear v b0 b1 b2 b3 b4 z0 z1 z2;cases X
  ·go_wp2;exact F _ _ _ _ _ _ _ _ _ _ _ (j.t D)
  ·go_wp2;exact F _ _ _ _ _ _ _ _ _ _ _ (j.t D)
end
section
open Go Go.RowKit Go.Conc Go.ConcN Go.ConcN.Gen Go.Conc.Lib Go.ConcR.Gen Go.Co Go.Sim
def aW:Og->LM NB | .region _ ops _=>ops | _=>#[]
noncomputable def wLB:Og:=inn (inn (sqB (Tryz.f139.body.getD .skip)))
noncomputable def Gt:LM NB:=aW (sqA dU)
noncomputable def DY:LM NB:=aW (sqA (sqA (sqB dU)))
noncomputable def mj:LM NB:=aW (sqA (sqB (Tryz.f141.body.getD .skip)))
noncomputable def mi:LM NB:=aW (sqA (sqB (Tryz.f142.body.getD .skip)))
noncomputable def pI:LM NB:=aW (Tryz.f143.body.getD .skip)
noncomputable def dF:Lx PW:=[.inLoop wLB,.inBlock 0]
def pt(b:Ly):LA:=.pointer (Lq b)
noncomputable def f1(a:LM LA)(D:Lx NR):LW:=(Nv 139).at ⟨a,D⟩ (.inRegion Gt [0,1,2]::.code (sqB dU)::.inBlock 1::dF)
def qS(x:LM LA)(h:x.size=60):∃y0 y1 y2 y3 y4 y5 y6 y7 y8 y9 b8 b7 b6 b0 a8 a7 a6 Z Y X W V U T R Q P O N M L I H G F D C B A z y w v u s r q p o n l k j i g f d c b a,x=#[y0,y1,y2,y3,y4,y5,y6,y7,y8,y9,b8,b7,b6,b0,a8,a7,a6,Z,Y,X,W,V,U,T,R,Q,P,O,N,M,L,I,H,G,F,D,C,B,A,z,y,w,v,u,s,r,q,p,o,n,l,k,j,i,g,f,d,c,b,a]:=by
 have e:=jI x;rw[h] at e;exact⟨_,_,_,_,_,_,_,_,_,_,_,_,_,_,_,_,_,_,_,_,_,_,_,_,_,_,_,_,_,_,_,_,_,_,_,_,_,_,_,_,_,_,_,_,_,_,_,_,_,_,_,_,_,_,_,_,_,_,_,_,e.t rfl⟩
def xF{Fz S:Bs}{A o a:Ly}(h:Fz A)(g:A<a):EvC Fz S a ⟨.cell ⟨A,o,Lw⟩,LH,Mode.plain == Mode.atomic⟩:=by
 refine⟨⟨by simp,by simp,by simp⟩,λm hm=>by simp at hm,λx d b f=>?_⟩;have c:x=⟨.cell ⟨A,o,Lw⟩,LH,.plain⟩:=by
  have e:(Mode.plain == Mode.atomic)=LH:=by decide
  rw[e] at d;simp[Ny,Oh] at d;exact d.symm
 subst c;simp only[Go.Co.blk,MM] at f;subst f;exact⟨g,rfl,.inr ⟨h,rfl⟩⟩
noncomputable def c20:Og:=sqB (sqA (sqB dU))
noncomputable def wX:Og:=sqB (sqB dU)
noncomputable def f2(a:LM LA)(D:Lx NR):LW:=(Nv 139).at ⟨a,D⟩ (.inRegion DY [5,6]::.code c20::.code wX::.inBlock 1::dF)
section
variable{Fz:Bs}{K:Lt->Lt->Prop}{Stop:Bs->LD->Lt->Prop}{S:Bs}(hK:∀a b c,K a b->K b c->K a c)
include hK
theorem Gi{d:LM LA}{D:Lx NR}{b:Lx LW}{c:Ly}{w:Lt}(e:d[1]?.getD LI=pt c)(a:∀w₁,RC Fz K S w w₁->Stop S (G ((Mo 141).at ⟨#[pt c,.int .i64 1,LI,LI,.int .i64 0,pt c,pt c,pt c,.int .i64 1,LI],[]⟩ [.inRegion mj [4,5],.code .ret]) (f1 d D::b)) w₁) :az Ma Fz K Stop S (G ((Nv 139).at ⟨d,D⟩ (.code wLB::dF)) b) w:=by
 simp only[f1,Gt,mj,wLB,dU,dF,Qp,Te,LQ,sqA,sqB,inn,aW] at a ⊢;refine az.block hK ?_;refine az.seq hK ?_;refine az.region hK ?_;simp only[Mt,LX,Mj,Ms,Mn,Mr,MY];refine az.enter hK rfl rfl (by k_ne) rfl Wc (by kernel_rfl) rfl ?_
 walk_nrmf Te
 rw[e];simp only[pt] at a ⊢;refine az.seq hK ?_;refine az.region hK ?_;simp only[Mt,LX,Mj,Ms,Mn,Mr,MY];refine az.value hK (.int .i64 0) rfl rfl (by k_ne) (λ_=>by go_simp) (λ_=>by simp[go_sem]) ?_;walk_nrm;refine az.region_end hK ?_;refine az.seq hK ?_;refine az.region hK ?_;simp only[Mt,LX,Mj,Ms,Mn,Mr,MY];refine az.value hK (.pointer (Lq c)) rfl rfl (by k_ne) (λ_=>by go_simp) (λ_=>by simp[go_sem]) ?_;walk_nrm;refine az.value hK (.pointer (Lq c)) rfl rfl (by k_ne) (λ_=>by go_simp) (λ_=>by simp[go_sem]) ?_;walk_nrm;refine az.value hK (.pointer (Lq c)) rfl rfl (by k_ne) (λ_=>by go_simp) (λ_=>by simp[go_sem]) ?_;walk_nrm;refine az.value hK (.int .i64 1) rfl rfl (by k_ne) (λ_=>by go_simp) (λ_=>by simp[go_sem]) ?_;walk_nrm;exact az.stop a
theorem Gh[JunkSet]{d:LM LA}(g:d.size=60){D:Lx NR}{b:Lx LW}{f c A i N:Ly}{av:LA}{l:LU MN}{k:Ly}{w:Lt}(p:d[2]?.getD LI=pt A)(o:d[3]?.getD LI=pt c)(hA:∀w₁,RC Fz K S w w₁->w₁.cell? A=Lq (.slice l N k))(j:Fz A)(h:A<w.heap.size)(hi:i<N)(hN:N<=1000000)(a:∀w₁,RC Fz K S w w₁->Stop S (G ((Mo 142).at ⟨#[pt c,LI,.bool LH,pt c,pt c,pt c,LI,LI],[]⟩ [.inRegion mi [3,4,5],.code .ret]) (f2 ((((((((d.setIfInBounds 12 (.int .i64 (i+1))).setIfInBounds 13 (.int .i64 i)).setIfInBounds 7 (.int .i64 i)).setIfInBounds 14 (.int .i64 i)).setIfInBounds 15 (.slice l N k)).setIfInBounds 16 (.int .i64 N)).setIfInBounds 17 (.bool LH)).setIfInBounds 18 (.bool LH)) D::b)) w₁) :az Ma Fz K Stop S (G ((Mo 141).at ⟨#[pt f,.int .i64 1,LI,LI,.int .i64 0,pt f,pt f,pt f,.int .i64 1,.int .i64 (i+1)],[]⟩ [.inRegion mj [5],.code .ret]) (f1 d D::b)) w:=by
 obtain⟨y0,y1,y2,y3,y4,y5,y6,y7,y8,y9,g5,e9,e8,e7,e6,e5,e4,d9,d8,d7,d6,d5,c9,c8,c3,b9,b8,b7,b6,b0,a8,a7,a6,Z,Y,X,W,V,U,T,R,Q,P,O,M,L,I,H,F,C,B,z,y,x,v,u,t,s,r,q,rfl⟩:=qS d g;simp only[f1,f2,c20,wX,Gt,DY,mj,mi,wLB,dU,dF,Qp,Te,Sz,LQ,sqA,sqB,inn,aW] at a ⊢;simp at p o;subst p o;simp only[TQ,TO,TN] at a;simp only[pt] at a ⊢;have g6:IntKind.i64.wrap (i:LJ)=i:=MI _ (by omega);refine az.value hK (.int .i64 (i+1)) rfl rfl (by k_ne) (λ_=>by go_simp) (λ_=>by simp[go_sem]) ?_;walk_nrm;refine az.region_end hK ?_;refine az.retS hK ?_;refine az.leave1 hK rfl rfl Wc rfl ?_;walk_nrm;refine az.value hK (.int .i64 i) rfl rfl (by k_ne) (λ_=>by go_simp) (λ_=>by simp[go_sem]) ?_;walk_nrm;refine az.value hK (.int .i64 i) rfl rfl (by k_ne) (λ_=>by go_simp) (λ_=>by simp[go_sem]) ?_;walk_nrm;refine az.region_end hK ?_;refine az.seq hK ?_;refine az.seq hK ?_;refine az.region hK ?_;simp only[Mt,LX,Mj,Ms,Mn,Mr,MY];refine az.value hK (.int .i64 i) rfl rfl (by k_ne) (λ_=>by go_simp) (λ_=>by simp[go_sem]) ?_;walk_nrm;refine az.load hK (.slice l N k) rfl rfl (by k_ne) (λw₁ h₁=>?_) ?_
 ·have hc:=hA w₁ h₁;refine⟨by go_simp,λe n=>?_⟩;simp[go_sem,hc] at n;rw[n];exact xF j (LY h h₁.size)
 walk_nrm;refine az.value hK (.int .i64 N) rfl rfl (by k_ne) (λ_=>by go_simp) (λ_=>by simp[go_sem]) ?_;walk_nrm;refine az.value hK (.bool LH) rfl rfl (by k_ne) (λ_=>by go_simp) (λ_=>by simp[go_sem]) ?_;walk_nrm;refine az.value hK (.bool LH) rfl rfl (by k_ne) (λ_=>by go_simp) (λ_=>by simp[go_sem]) ?_;walk_nrm;refine az.enter hK rfl rfl (by k_ne) rfl SO (by kernel_rfl) rfl ?_
 walk_nrmf Sz
 refine az.seq hK ?_;refine az.region hK ?_;simp only[Mt,LX,Mj,Ms,Mn,Mr,MY];refine az.value hK (.bool LH) rfl rfl (by k_ne) (λ_=>by go_simp) (λ_=>by simp[go_sem]) ?_;walk_nrm;refine az.region_end hK ?_;refine az.seq hK ?_;refine az.region hK ?_;simp only[Mt,LX,Mj,Ms,Mn,Mr,MY];refine az.value hK (.pointer (Lq c)) rfl rfl (by k_ne) (λ_=>by go_simp) (λ_=>by simp[go_sem]) ?_;walk_nrm;refine az.value hK (.pointer (Lq c)) rfl rfl (by k_ne) (λ_=>by go_simp) (λ_=>by simp[go_sem]) ?_;walk_nrm;refine az.value hK (.pointer (Lq c)) rfl rfl (by k_ne) (λ_=>by go_simp) (λ_=>by simp[go_sem]) ?_;walk_nrm;exact az.stop a
end
end
section
open Go Go.RowKit Go.Conc Go.ConcN Go.ConcN.Gen Go.Conc.Lib Go.ConcR.Gen Go.Co Go.Sim
noncomputable def bot:LW:={ (default:LW) with fn:=Tryz.prog.funcs.size,mode:=.panicking [goexitEntry] }
def dn(a:Ly):Lx NR:=[Xz 140 #[pt a]]
section
variable{Fz:Bs}{K:Lt->Lt->Prop}{Stop:Bs->LD->Lt->Prop}{S:Bs}(hK:∀a b c,K a b->K b c->K a c)
include hK
theorem DK[JunkSet]{b:LM LA}(g:b.size=60){D:Lx NR}{a:Lx LW}{f A i N:Ly}{p:LU MN}{o:Ly}{w:Lt}(n:b[2]?.getD LI=pt A)(hA:∀w₁,RC Fz K S w w₁->w₁.cell? A=Lq (.slice p N o))(j:Fz A)(h:A<w.heap.size)(hi:N<=i)(hN:i<=1000000)(d:∀b c,az Ma Fz K Stop S (G { (Nv 139).at ⟨b,D⟩ c with mode:=.returning } a) w) :az Ma Fz K Stop S (G ((Mo 141).at ⟨#[pt f,.int .i64 1,LI,LI,.int .i64 0,pt f,pt f,pt f,.int .i64 1,.int .i64 (i+1)],[]⟩ [.inRegion mj [5],.code .ret]) (f1 b D::a)) w:=by
 obtain⟨y0,y1,y2,y3,y4,y5,y6,y7,y8,y9,g5,e9,e8,e7,e6,e5,e4,d9,d8,d7,d6,d5,c9,c8,c3,b9,b8,b7,b6,b0,a8,a7,a6,Z,Y,X,W,V,U,T,R,Q,P,O,M,L,I,H,F,C,B,z,y,x,v,u,t,s,r,q,rfl⟩:=qS b g;simp only[f1,Gt,DY,mj,wLB,dU,dF,Qp,Te,LQ,sqA,sqB,inn,aW];simp at n;subst n;simp only[pt];have g6:IntKind.i64.wrap (i:LJ)=i:=MI _ (by omega);have g7:decide ((N:LJ)<=(i:LJ))=LG:=by simp;omega
 have k:decide (N<=i)=LG:=by simp;omega
 refine az.value hK (.int .i64 (i+1)) rfl rfl (by k_ne) (λ_=>by go_simp) (λ_=>by simp[go_sem]) ?_;walk_nrm;refine az.region_end hK ?_;refine az.retS hK ?_;refine az.leave1 hK rfl rfl Wc rfl ?_;walk_nrm;refine az.value hK (.int .i64 i) rfl rfl (by k_ne) (λ_=>by go_simp) (λ_=>by simp[go_sem]) ?_;walk_nrm;refine az.value hK (.int .i64 i) rfl rfl (by k_ne) (λ_=>by go_simp) (λ_=>by simp[go_sem]) ?_;walk_nrm;refine az.region_end hK ?_;refine az.seq hK ?_;refine az.seq hK ?_;refine az.region hK ?_;simp only[Mt,LX,Mj,Ms,Mn,Mr,MY];refine az.value hK (.int .i64 i) rfl rfl (by k_ne) (λ_=>by go_simp) (λ_=>by simp[go_sem]) ?_;walk_nrm;refine az.load hK (.slice p N o) rfl rfl (by k_ne) (λw₁ h₁=>?_) ?_
 ·have hc:=hA w₁ h₁;refine⟨by go_simp,λe l=>?_⟩;simp[go_sem,hc] at l;rw[l];exact xF j (LY h h₁.size)
 walk_nrm;refine az.value hK (.int .i64 N) rfl rfl (by k_ne) (λ_=>by go_simp) (λ_=>by simp[go_sem]) ?_;walk_nrm;refine az.value hK (.bool LG) rfl rfl (by k_ne) (λ_=>by go_simp) (λ_=>by simp[go_sem]) ?_;walk_nrm;refine az.value hK (.bool LG) rfl rfl (by k_ne) (λ_=>by go_simp) (λ_=>by simp[go_sem]) ?_;walk_nrm;refine az.unwanted hK rfl rfl ?_;walk_nrm;refine az.value hK (.bool LG) rfl rfl (by k_ne) (λ_=>by go_simp) (λ_=>by simp[go_sem]) ?_;walk_nrm;refine az.region_end hK ?_;refine az.cond hK LG rfl ?_;simp only[if_true];refine az.retS hK ?_;exact d _ _
theorem DI{b:LM LA}(g:b.size=60){D:Lx NR}{a:Lx LW}{f:Ly}{w:Lt}(e:b[18]?.getD LI=.bool LH)(d:∀b c,az Ma Fz K Stop S (G { (Nv 139).at ⟨b,D⟩ c with mode:=.returning } a) w) :az Ma Fz K Stop S (G ((Mo 142).at ⟨#[pt f,LI,.bool LH,pt f,pt f,pt f,.int .u32 1,LI],[]⟩ [.inRegion mi [4,5],.code .ret]) (f2 b D::a)) w:=by
 obtain⟨y0,y1,y2,y3,y4,y5,y6,y7,y8,y9,d6,d5,c9,c8,c3,b9,b8,b7,b6,b0,a8,a7,a6,Z,Y,X,W,V,U,T,R,Q,P,O,N,M,L,I,H,F,C,B,A,z,y,x,v,u,t,s,r,q,p,o,n,l,k,j,i,h,rfl⟩:=qS b g;simp only[f2,c20,wX,DY,mi,wLB,dU,dF,Qp,Sz,LQ,sqA,sqB,inn,aW];simp at e;subst e;simp only[pt];refine az.value hK (.bool LG) rfl rfl (by k_ne) (λ_=>by go_simp) (λ_=>by simp[go_sem]) ?_;walk_nrm;refine az.value hK (.bool LG) rfl rfl (by k_ne) (λ_=>by go_simp) (λ_=>by simp[go_sem]) ?_;walk_nrm;refine az.region_end hK ?_;refine az.retS hK ?_;refine az.leave1 hK rfl rfl SO rfl ?_;walk_nrm;refine az.value hK (.bool LG) rfl rfl (by k_ne) (λ_=>by go_simp) (λ_=>by simp[go_sem]) ?_;walk_nrm;refine az.region_end hK ?_;refine az.cond hK LG rfl ?_;simp only[if_true];refine az.retS hK ?_;exact d _ _
theorem DJ{c:LM LA}(f:c.size=60){D:Lx NR}{b:Lx LW}{e:Ly}{w:Lt}(d:c[18]?.getD LI=.bool LH)(a:az Ma Fz K Stop S (G ((Nv 139).at ⟨(c.setIfInBounds 19 (.bool LH)).setIfInBounds 20 (.bool LH),D⟩ (.code wX::.inBlock 1::dF)) b) w) :az Ma Fz K Stop S (G ((Mo 142).at ⟨#[pt e,LI,.bool LH,pt e,pt e,pt e,.int .u32 0,LI],[]⟩ [.inRegion mi [4,5],.code .ret]) (f2 c D::b)) w:=by
 obtain⟨y0,y1,y2,y3,y4,y5,y6,y7,y8,y9,d5,c9,c8,c3,b9,b8,b7,b6,b0,a8,a7,a6,Z,Y,X,W,V,U,T,R,Q,P,O,N,M,L,I,H,F,C,B,A,z,y,x,v,u,t,s,r,q,p,o,n,l,k,j,i,h,g,rfl⟩:=qS c f;simp only[f2,c20,wX,DY,mi,wLB,dU,dF,Qp,Sz,LQ,sqA,sqB,inn,aW] at a ⊢;simp at d;subst d;simp only[pt];simp only[TQ,TO,TN] at a;refine az.value hK (.bool LH) rfl rfl (by k_ne) (λ_=>by go_simp) (λ_=>by simp[go_sem]) ?_;walk_nrm;refine az.value hK (.bool LH) rfl rfl (by k_ne) (λ_=>by go_simp) (λ_=>by simp[go_sem]) ?_;walk_nrm;refine az.region_end hK ?_;refine az.retS hK ?_;refine az.leave1 hK rfl rfl SO rfl ?_;walk_nrm;refine az.value hK (.bool LH) rfl rfl (by k_ne) (λ_=>by go_simp) (λ_=>by simp[go_sem]) ?_;walk_nrm;refine az.region_end hK ?_;refine az.cond hK LH rfl ?_;simp only[if_false,Mx];refine az.skip hK ?_;exact a
end
end
section
open Go Go.RowKit Go.Conc Go.ConcN Go.ConcN.Gen Go.Conc.Lib Go.ConcR.Gen Go.Co Go.Sim
noncomputable def vB:Og:=sqB (sqB (sqB (sqB (sqB dU))))
noncomputable def yW:LM NB:=aW (match vB with | .cond _ r _=>r | c=>c)
noncomputable def f10(a:LM LA)(D:Lx NR):LW:=(Nv 139).at ⟨a,D⟩ (.inRegion yW [0]::.inBlock 1::dF)
structure I14(Fd:Ly)(l:LM MC)(a:ON):Prop where
 c1:l[1]?.getD LH=LG->l[0]?.getD LH=LG
 c2:l[2]?.getD LH=LG->l[1]?.getD LH=LG
 c4:l[4]?.getD LH=LG->l[3]?.getD LH=LG
 c5:l[5]?.getD LH=LH
 ac:∃T4 T5 T6 T7 T8,a=⟨#[.pointer (Lq Fd),.bool LG,LI,LI,T4,T5,T6,T7,T8,LI],[]⟩/\(l[0]?.getD LH=LG->T4=.pointer (Lq Fd))/\(l[1]?.getD LH=LG->T5=.pointer (Lq Fd))/\(l[2]?.getD LH=LG->T6=.pointer (Lq Fd))/\(l[3]?.getD LH=LG->T7=.bool LG)/\(l[4]?.getD LH=LG->T8=.int .u32 1)
section
variable{Fz:Bs}{K:Lt->Lt->Prop}{Stop:Bs->LD->Lt->Prop}{S:Bs}(hK:∀a b c,K a b->K b c->K a c)
include hK
theorem Ge{c:LM LA}(e:c.size=60){D:Lx NR}{a:Lx LW}{w:Lt}(d:c[58]?.getD LI=.bool LH)(b:az Ma Fz K Stop S (G ((Nv 139).at ⟨c,D⟩ (.code wLB::dF)) a) w) :az Ma Fz K Stop S (G ((Nv 139).at ⟨c,D⟩ (.code vB::.inBlock 1::dF)) a) w:=by
 obtain⟨y0,y1,y2,y3,y4,y5,y6,y7,y8,y9,c9,c8,c3,b9,b8,b7,b6,b0,a8,a7,a6,Z,Y,X,W,V,U,T,R,Q,P,O,N,M,L,I,H,F,C,B,A,z,y,x,v,u,t,s,r,q,p,o,n,l,k,j,i,h,g,f,rfl⟩:=qS c e;simp only[vB,wLB,dU,dF,Qp,LQ,sqA,sqB,inn] at b ⊢;simp at d;subst d;refine az.cond hK LH rfl ?_;simp only[if_false,Mx];refine az.skip hK ?_;refine az.inBlock hK ?_;refine az.inLoop hK ?_;exact b
theorem Gg{d:LM LA}{D:Lx NR}{a:Lx LW}{c:Ly}{w:Lt}(b:az Ma Fz K Stop S (G ((Nv 139).at ⟨d.setIfInBounds 59 (.tuple #[]),D⟩ (.code wLB::dF)) a) w) :az Ma Fz K Stop S (G ((Mo 143).at ⟨#[pt c,.bool LG,LI,LI,pt c,pt c,pt c,.bool LG,.int .u32 1,.tuple #[]],[]⟩ [.inRegion pI []]) (f10 d D::a)) w:=by
 simp only[f10,yW,pI,vB,wLB,dU,dF,Qp,TE,LQ,sqA,sqB,inn,aW] at b ⊢;refine az.region_end hK ?_;refine az.endS hK ?_;refine az.leave0 hK rfl rfl XR rfl ?_;refine az.region_end hK ?_;refine az.inBlock hK ?_;refine az.inLoop hK ?_;exact b
theorem Gd(M:∀w n,K w { w with drawn:=n }){tm:LM LA}(hsz:tm.size=60){D:Lx NR}{real:Lx LW}{Fd:Ly}{w:Lt}(h3:tm[3]?.getD LI=pt Fd)(h58:tm[58]?.getD LI=.bool LG)(hstop:∀w₁,RC Fz K S w w₁->Stop S (G ((Mo 143).at ⟨#[pt Fd,.bool LG,LI,LI,pt Fd,pt Fd,pt Fd,.bool LG,.int .u32 1,LI],[]⟩ [.inRegion pI [5]]) (f10 tm D::real)) w₁) :az Ma Fz K Stop S (G ((Nv 139).at ⟨tm,D⟩ (.code vB::.inBlock 1::dF)) real) w:=by
 obtain⟨y0,y1,y2,y3,y4,y5,y6,y7,y8,y9,m7,m6,m5,m4,m3,l9,l8,l7,l6,l5,l4,k9,k8,k7,k6,k5,h9,h8,g9,g8,g7,g6,g5,e9,e8,e7,e6,e5,e4,d9,d8,d7,d6,d5,c9,c8,c3,b9,b8,b7,b6,b0,a8,a7,a6,Z,Y,X,W,V,rfl⟩:=qS tm hsz;simp only[f10,yW,pI,vB,wLB,dU,dF,Qp,TE,LQ,sqA,sqB,inn,aW] at hstop ⊢;simp at h3 h58;subst h3 h58;simp only[pt] at hstop ⊢;refine az.cond hK LG rfl ?_;simp only[if_true];refine az.region hK ?_;simp only[Mt,LX,Mj,Ms,Mn,Mr,MY];refine az.enter hK rfl rfl (by k_ne) rfl XR (by kernel_rfl) rfl ?_
 walk_nrmf TE
 refine az.region_inv hK (by kernel_rfl) M (I14 Fd) ?_ ?_ ?_
 ·exact⟨by simp,by simp,by simp,by simp,LI,LI,LI,LI,LI,rfl,by simp,by simp,by simp,by simp,by simp⟩
 ·rintro l a i g ⟨A,z,y,p,I,H,C,F,B,rfl,u,t,s,r,q⟩ v x k d;have o:=(bT v).1;have n7:l.size=6:=g;have c:∀i j,i<6->(l.setIfInBounds i LG)[j]?.getD LH=if i=j then LG else l[j]?.getD LH:=λi j h=>lp l i j (by omega);have n6:=mV v;have o:i=0\/i=1\/i=2\/i=3\/i=4\/i=5:=by
   have:i<6:=o;omega
  rcases o with rfl | rfl | rfl | rfl | rfl | rfl
  ·refine az.value hK (.pointer (Lq Fd)) rfl rfl (by k_ne) (λ_=>by go_simp) (λ_=>by simp[go_sem]) ?_;walk_nrm;exact d _ ⟨by simp[c],by simpa[c] using λh=>(z h),by simpa[c] using y,by simpa[c] using p,_,H,C,F,B,rfl,λ_=>rfl,by simpa[c] using t,by simpa[c] using s,by simpa[c] using r,by simpa[c] using q⟩
  ·have b:=bS v rfl;simp[MW] at b;obtain rfl:=u (by simp[b]);refine az.value hK (.pointer (Lq Fd)) rfl rfl (by k_ne) (λ_=>by go_simp) (λ_=>by simp[go_sem]) ?_;walk_nrm;exact d _ ⟨by simp[c,b],by simp[c],by simpa[c] using y,by simpa[c] using p,_,_,C,F,B,rfl,λ_=>rfl,λ_=>rfl,by simpa[c] using s,by simpa[c] using r,by simpa[c] using q⟩
  ·have b:=bS v rfl;simp[MW] at b;obtain rfl:=t (by simp[b]);refine az.value hK (.pointer (Lq Fd)) rfl rfl (by k_ne) (λ_=>by go_simp) (λ_=>by simp[go_sem]) ?_;walk_nrm;exact d _ ⟨by simpa[c] using A,by simp[c,b],by simpa[c] using y,by simpa[c] using p,I,_,_,F,B,rfl,by simpa[c] using u,λ_=>rfl,λ_=>rfl,by simpa[c] using r,by simpa[c] using q⟩
  ·refine az.value hK (.bool LG) rfl rfl (by k_ne) (λ_=>by go_simp) (λ_=>by simp[go_sem]) ?_;walk_nrm;exact d _ ⟨by simpa[c] using A,by simpa[c] using z,by simp[c],by simpa[c] using p,I,H,C,_,B,rfl,by simpa[c] using u,by simpa[c] using t,by simpa[c] using s,λ_=>rfl,by simpa[c] using q⟩
  ·have b:=bS v rfl;simp[MW] at b;obtain rfl:=r (by simp[b]);refine az.enter hK rfl rfl (by k_ne) rfl XS (by kernel_rfl) rfl ?_
   walk_nrmf Tryz.f182
   refine az.seq hK ?_;refine az.region hK ?_;simp only[Mt,LX,Mj,Ms,Mn,Mr,MY];refine az.value hK (.int .u32 0) rfl rfl (by k_ne) (λ_=>by go_simp) (λ_=>by simp[go_sem]) ?_;walk_nrm;refine az.region_end hK ?_;refine az.seq hK ?_;refine az.seq hK ?_;refine az.region hK ?_;simp only[Mt,LX,Mj,Ms,Mn,Mr,MY];refine az.value hK (.bool LG) rfl rfl (by k_ne) (λ_=>by go_simp) (λ_=>by simp[go_sem]) ?_;walk_nrm;refine az.region_end hK ?_;refine az.cond hK LG rfl ?_;simp only[if_true];refine az.seq hK ?_;refine az.region hK ?_;simp only[Mt,LX,Mj,Ms,Mn,Mr,MY];refine az.value hK (.int .u32 1) rfl rfl (by k_ne) (λ_=>by go_simp) (λ_=>by simp[go_sem]) ?_;walk_nrm;refine az.region_end hK ?_;refine az.retS hK ?_;refine az.leave1 hK rfl rfl XS rfl ?_;walk_nrm;exact d _ ⟨by simpa[c] using A,by simpa[c] using z,by simp[c,b],by simpa[c] using p,I,H,C,_,_,rfl,by simpa[c] using u,by simpa[c] using t,by simpa[c] using s,λ_=>rfl,λ_=>rfl⟩
  ·have b:=bS v rfl;simp[MW] at b;have O:l[2]?.getD LH=LG:=by simp[b]
   have N:l[4]?.getD LH=LG:=by simp[b]
   have P:=z O;have U:=A P;have T:=y N;obtain rfl:=u U;obtain rfl:=t P;obtain rfl:=s O;obtain rfl:=r T;obtain rfl:=q N;have f:x=[]:=k (by
    simp only[Mi,List.filter_eq_nil_iff,Nj,Mg,OM,not_and];intro j hj R;exfalso;have n8:j<6:=hj;have L:j<(l.setIfInBounds 5 LG).size:=by simp;omega
    have e:(l.setIfInBounds 5 LG)[j]?.getD LH=LG:=by
     rw[c 5 j (by omega)];obtain rfl | rfl | rfl | rfl | rfl | rfl:j=0\/j=1\/j=2\/j=3\/j=4\/j=5:=by omega
     all_goals simp[U,P,O,T,N]
    simp only[No,Ml L,LQ] at R e;rw[R] at e;cases e)
   subst f;exact az.stop hstop
 ·rintro l a g ⟨A,z,y,p,I,H,C,F,B,rfl,u,t,s,r,q⟩ f;have q0:=cS f g (i:=0) rfl (by simp[MW]);have q1:=cS f g (i:=1) rfl (by simp[MW,q0]);have q2:=cS f g (i:=2) rfl (by simp[MW,q1]);have q3:=cS f g (i:=3) rfl (by simp[MW]);have q4:=cS f g (i:=4) rfl (by simp[MW,q3]);have Q:=cS f g (i:=5) rfl (by simp[MW,q2,q4]);rw[p] at Q;cases Q
end
end
section
open Go Go.RowKit Go.Conc Go.ConcN Go.ConcN.Gen Go.Conc.Lib Go.ConcR.Gen Go.Co Go.Sim
def dJ(a b A c Y V B:Ly):LM LA:=#[pt a,pt b,pt A,pt c,pt Y,pt V,pt B]
def sI(a b A c Y V B:Ly):NR:={ target:=.fn (.func 139) (dJ a b A c Y V B),args:=#[] }
def tm0(a b A c Y V B:Ly):LM LA:=#[pt a,pt b,pt A,pt c,pt Y,pt V,pt B]++MR 53 LI
section
variable{Fz:Bs}{K:Lt->Lt->Prop}{Stop:Bs->LD->Lt->Prop}{S:Bs}(hK:∀a b c,K a b->K b c->K a c)
include hK
theorem yN{b d A f Y V B:Ly}{w:Lt}(a:az Ma Fz K Stop S (G ((Nv 139).at ⟨tm0 b d A f Y V B,dn b⟩ (.code wLB::dF)) [bot]) w) :az Ma Fz K Stop S (born Ma (sI b d A f Y V B)) w:=by
 have c:∀w,Nb Ma LH (born Ma (sI b d A f Y V B)) w=.go (G ((Nv 139).at ⟨tm0 b d A f Y V B,[]⟩ [.code (Tryz.f139.body.getD .skip)]) [bot]) w #[]:=by
  intro w;simp[born,sI,dJ,Nb,Qw,NT,invoke,callFunc,Uz,Qp,seen,Ni,G,MO,Frame.at,Nv,bot,tm0];rfl
 refine az.pure hK rfl c ?_;simp only[wLB,dF,Qp,LQ,sqA,sqB,inn] at a ⊢;refine az.seq hK ?_;refine az.region hK ?_;simp only[Mt,LX,Mj,Ms,Mn,Mr,MY];refine az.pure hK rfl (λw=>stepG_defer rfl rfl (by k_ne) rfl) ?_;refine az.region_end hK ?_;refine az.block hK ?_;refine az.loop hK ?_;have e:Act.put ⟨tm0 b d A f Y V B,[Xz 140 (Array.map (Act.eval ⟨tm0 b d A f Y V B,[]⟩) #[Operand.tmp 0])]⟩ Lw LI=⟨tm0 b d A f Y V B,dn b⟩:=by
  simp[Act.put,dn,Act.eval,tm0]
 rw[<- e] at a;exact a
end
end
end Go.Proofs.YtidgnkmjgioapaaGreat
