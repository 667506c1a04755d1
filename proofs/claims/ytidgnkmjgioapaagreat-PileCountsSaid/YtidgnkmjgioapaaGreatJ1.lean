/-
  Part 4 of the proof. gladstonelaw04.PileCounts answers true for every yard, parcel and list of numbers that the statement takes, and leaves its arguments as they were. No conditions.
-/
import Derived.Test.YtidgnkmjgioapaaGreatG2
import Derived.Test.YtidgnkmjgioapaaGreatL1
import Derived.RangeFuncBox
import Derived.DeepKeys
import Derived.RangeFuncNested
import Derived.RangeFuncBound
import Derived.RangeFuncCalls
import Derived.RangeFuncLeaves
import Derived.Shelf.Abstract
import Derived.WalkKit
import Derived.OwnWalkIn
import Derived.TacticsInMore
import Derived.LoopNIn
import Derived.LoopIn
import Derived.Laws.CopyOwn
import Derived.Laws.CopyRow
import Derived.Laws.IdiomCopy
import Derived.Recover
import Derived.Defers
import Derived.RangeFuncOwn
import Derived.WalkMore
set_option maxRecDepth 100000
set_option maxHeartbeats 8000000
set_option linter.all false
open And renaming intro->qi8
open Array renaming getD_eq_getD_getElem?->qjg,getElem?_append_left->qnt,getElem?_eq_getElem->qih,getElem?_eq_some_iff->qhs,getElem?_setIfInBounds_ne->qjb,getElem?_setIfInBounds_self_of_lt->ql3,replicate_succ->qie,replicate_zero->qif
open Bool renaming and_eq_true->qic,eq_false_iff->qm2,false_eq_true->qiv,not_eq_true'->qkz,true_and->qpu
open Classical renaming byContradiction->qj6,em->qlC
open Go renaming Addr->qiG,Calls->qis,Code->qkh,Deferred->qjH,Frame->qhG,FuncId->qj8,block_lt_of_cell->qqv,Goroutine->qhw,Item->qlG,MapEntry->qlj,Oper->qjn,Operand->qiy,Program->qhF,TypeId->qi4,Value->qhu,World->qhr,bodyPost_ret->qka,callsIn_of_wp->qpt,callsIn_of_wp_marks->qnC,callsIn_wide->qjA,execOp->qkA,grownBy_putObj'->ql8,grownCap->qm1,heap_alloc_new->qhA,info_parts->qjx,leaves_cons->qob,maxLen->qlg,ownsRow_succ->qn6,results->qke,run_takeDeferred->qnA,undef->qhx,wpList_append_lies->qpi,yielded->qjt,zeroValue->qmy
open Go.Builtin renaming append_->ql7,clear_->qof,copy_->qpo,zeroCells->qki
open Go.Calls renaming quiet_of_same->qk0
open Go.Code renaming wp_mono->qoo
open Go.Conc renaming base->qij,baseD->qjm
open Go.Exit renaming inBlock->qmr,jump->qqq
open Go.Instr renaming checkKey->qlF,findAsking->qm9,findKey->qmt,lookup->qnx,makeMap->qpp,mapUpdate->qjw
open Go.IntWalk renaming i64_in->qin
open Go.Lib renaming hid->qhp
open Go.MemAct renaming ofEvent->qjq,touch?->qkg
open Go.Proofs.Tryz renaming f137->qqp,f139->qmd,f141->qoC,f142->qod,f143->qpb,f54->qnE,func141->qrj,func142->qop,ntmps157->qqF,ntmps84->qq4,ntmps98->qrh,prog->qi2,results102->qrG,results54->qs3,underlying3->qmD
open Go.Region renaming binds->qj0,ready->qia,wanted->qip
open Go.Result renaming andThen->qnr,andThen_ok->qjl
open Go.RowKit renaming intOf->qiF
open Go.RowKit.Below renaming heap_setCell->qj4,refl->qns
open Go.Sem renaming run->qjd,run_bind->qjo,run_pure->qmo
open Go.Value renaming int->qid,oneCell'->qjD,ownBlock->qix,slice->qjc
open Go.World renaming cell?->qiq,grownBy_alloc->qhq,news_of_block->qje,ownsRow_nil->qjF,putObj_heap_same->qn5,setCell->qk2,size_alloc->qhH
open Go.World.grownBy renaming refl->qhD
open List renaming all_eq_true->qiB,append_assoc->qk8,append_toArray->ql1,cons_append->qi7,drop_eq_getElem_cons->qkd,drop_eq_nil_of_le->qkr,drop_succ_cons->qig,drop_zero->qit,eq_nil_of_length_eq_zero->qja,ext_getElem->qrx,ext_getElem?->qnj,filter_append->qmh,find?_eq_none->qn3,flatMap_append->qp7,flatMap_cons->qkl,foldl_append->qms,foldl_cons->qln,forall_mem_cons->qp3,forall_mem_nil->qp8,getElem?_append_left->qir,getElem?_append_right->qjv,getElem?_eq_getElem->qhz,getElem?_eq_some_iff->qi3,getElem?_map->qjE,getElem?_of_mem->qp2,getElem?_set_ne->qls,getElem?_set_self->qn4,getElem?_take->qn2,getElem?_take_of_lt->qk4,length_append->qj1,length_cons->qhE,length_filter_le->qkb,length_map->qkk,length_nil->qi1,length_pos_iff->qm6,length_set->qo1,length_singleton->qov,length_take->qky,map_append->qk1,map_cons->qll,map_nil->qmq,map_toArray->qmc,mem_append->qku,mem_cons->qjr,mem_filter->qmk,mem_flatMap->qmE,mem_map->qlp,mem_of_getElem?->qi9,mem_of_mem_take->qmp,mem_range->qjC,mem_singleton->ql4,nil_append->qii,not_mem_nil->qjG,push_toArray->qio,range->qil,range'->qmG,range_succ->qlo,replicate->qs2,setIfInBounds_toArray->qpj,set_cons_succ->qr7,set_cons_zero->qr8,size_toArray->qim,takeWhile_cons_of_pos->qnu,take_add_one->qj7,take_length->qjs
open List.cons renaming injEq->qkG
open List.range renaming loop->qj2
open Nat renaming add_assoc->qnb,add_mul->qoc,le_of_eq->qlB,le_of_lt->qri,le_refl->qhv,le_trans->qhB,lt_of_lt_of_le->qi0,min_eq_left->qq8,reduceAdd->qib,reduceSub->qiA,zero_add->qi6,zero_le->qiu
open Option renaming getD_some->qhC
open Option.some renaming inj->qkD,injEq->qiD
open Prod renaming fst->qld
namespace Go.Proofs.YtidgnkmjgioapaaGreat
section
open Go.RowKit Go.Co
def sqA:qkh->qkh | .seq a _=>a | c=>c
def sqB:qkh->qkh | .seq _ b=>b | c=>c
def inn:qkh->qkh | .block _ c | .loop c | .scope c=>c | c=>c
noncomputable def jN:qkh:=inn (inn (inn (sqB (Tryz.f139.body.getD .skip))))
noncomputable def wR3:qkh:=sqA (sqB (sqB jN))
noncomputable def wR4:qkh:=sqA (sqB (sqB (sqB jN)))
noncomputable def wR9:qkh:=sqA (sqB (sqB (sqB (sqB jN))))
structure I3(t:Nat->qhu)(w0:qhr)(Y:Nat)(yv:qhu)(gm gx:Nat->Int)(l:Array Bool)(a:Act)(w:qhr):Prop where
 hg:w0.grownBy w none
 c6:l[6]?.getD false=true->l[0]?.getD false=true/\l[1]?.getD false=true/\l[3]?.getD false=true/\l[4]?.getD false=true/\l[5]?.getD false=true
 c7:l[7]?.getD false=true->l[6]?.getD false=true
 ac:∃T8 T9 x y z u,a=⟨#[t 0,t 1,t 2,t 3,.pointer (some Y),t 5,t 6,t 7,T8,T9,t 10,t 11,t 12,t 13,t 14,t 15,t 16,t 17,t 18,t 19,t 20,x,y,z,u,t 25,t 26,t 27,t 28,t 29,t 30,t 31,t 32,t 33,t 34,t 35,t 36,t 37,t 38,t 39,t 40,t 41,t 42,t 43,t 44,t 45,t 46,t 47,t 48,t 49,t 50,t 51,t 52,t 53,t 54,t 55,t 56,t 57,t 58,t 59],[]⟩/\(l[0]?.getD false=true->x=yv)/\(l[1]?.getD false=true->y=wts gm)/\(l[2]?.getD false=true->z=yv)/\(l[3]?.getD false=true->u=wts gx) /\
  (l[4]?.getD false=true->∃B1,T8=.pointer (some ⟨B1,0,none⟩)/\w0.heap.size<=B1/\w.heap[B1]?=some (qI (if l[6]?.getD false then gm else λ_=>0))/\(l[5]?.getD false=true->T9≠T8)) /\
  (l[5]?.getD false=true->∃B2,T9=.pointer (some ⟨B2,0,none⟩)/\w0.heap.size<=B2/\w.heap[B2]?=some (qI (if l[7]?.getD false then gx else λ_=>0)))
def qfq(lo G:Nat)(t:Nat->qhu)(w:qhr)(R:Act->qhr->Prop)(M:List Par)(b6:Int)(Y:Nat)(yb:Option qiG)(yc:Nat)(h4:t 4=.pointer (some Y))(hP:qr lo G w (.slice yb M.length yc) M)(p5:G<=w.heap.size)(h5:M.length<=5)(e7:w.cell? Y=some (.slice yb M.length yc))(e6:w.cell? ⟨Y,1,none⟩=some (.int .i64 b6))(p6:Y<w.heap.size)(hR:∀o k w' x y z u,w.gb w' none->w'.heap[o]?=some (qI (pre Par.mn M M.length))->w'.heap[k]?=some (qI (pre Par.mx M M.length))->o≠k->w.heap.size<=o->w.heap.size<=k ->R ⟨#[t 0,t 1,t 2,t 3,.pointer (some Y),t 5,t 6,t 7,.pointer (some ⟨o,0,none⟩),.pointer (some ⟨k,0,none⟩),t 10,t 11,t 12,t 13,t 14,t 15,t 16,t 17,t 18,t 19,t 20,x,y,z,u,t 25,t 26,t 27,t 28,t 29,t 30,t 31,t 32,t 33,t 34,t 35,t 36,t 37,t 38,t 39,t 40,t 41,t 42,t 43,t 44,t 45,t 46,t 47,t 48,t 49,t 50,t 51,t 52,t 53,t 54,t 55,t 56,t 57,t 58,t 59],[]⟩ w') :wR3.wp Ya (yt R) ⟨#[t 0,t 1,t 2,t 3,t 4,t 5,t 6,t 7,t 8,t 9,t 10,t 11,t 12,t 13,t 14,t 15,t 16,t 17,t 18,t 19,t 20,t 21,t 22,t 23,t 24,t 25,t 26,t 27,t 28,t 29,t 30,t 31,t 32,t 33,t 34,t 35,t 36,t 37,t 38,t 39,t 40,t 41,t 42,t 43,t 44,t 45,t 46,t 47,t 48,t 49,t 50,t 51,t 52,t 53,t 54,t 55,t 56,t 57,t 58,t 59],[]⟩ w:=by
 have⟨HR,HP⟩:=qE hR hP;have SC:=qhp (qi8 e7 e6);clear hR hP e7 e6;rw[h4];clear h4;simp only[wR3,jN,qmd,qhC,sqA,sqB,inn];obtain⟨T,c9⟩:∃T,T=pre Par.mn M M.length:=⟨_,rfl⟩;obtain⟨gx,c8⟩:∃gx,gx=pre Par.mx M M.length:=⟨_,rfl⟩;rw[<- c9,<- c8] at HR;have⟨l9,l8⟩:=qE c9 c8;clear c9 c8;refine KX (by kernel_rfl) (I3 t w Y (.agg #[.slice yb M.length yc,b6]) T gx) ?_ ?_ ?_
 ·exact⟨qe _ _,by simp,by simp,t 8,t 9,t 21,t 22,t 23,t 24,rfl,by simp,by simp,by simp,by simp,by simp,by simp⟩
 ·intro l a V i I hI G;have c3:=(zz G).1;have L:l.size=8:=I;have c:∀i j,i<8->(l.setIfInBounds i true)[j]?.getD false=if i=j then true else l[j]?.getD false:=λi j h=>QP l i j (by omega);have d:=ZO G;obtain⟨hg,C,B,T8,T9,x,y,z,u,rfl,A,s,v,r,q,p⟩:=hI;have HG:=qhp hg;have s0:=hg.cl SC.1;have s1:=hg.cl SC.2;have e9:=qhp (HP.kept hg);have e5:=hg.size;clear hg;have c3:i=0\/i=1\/i=2\/i=3\/i=4\/i=5\/i=6\/i=7:=by
   have:i<8:=c3;omega
  rcases c3 with rfl | rfl | rfl | rfl | rfl | rfl | rfl | rfl
  ·refine zG rfl ?_;have H:=qhp (qi8 C (qi8 B (qi8 s (qi8 v (qi8 r (qi8 q p))))));have⟨W,n⟩:=qE d c;clear A s v r q p C B G d c I L;go_wp2;have⟨C,B,s,v,r,q,p⟩:=H.out;have c:=n.out;have F:l[6]?.getD false=false:=by
    cases h:l[6]?.getD false with
    | false=>rfl
    | true=>have:=(C h).1;rw[W] at this;cases this
   have Q:l[7]?.getD false=false:=by
    cases h:l[7]?.getD false with
    | false=>rfl
    | true=>rw[B h] at F;cases F
   exact⟨HG,by simp[c,F],by simp[c,Q],T8,T9,_,y,z,u,rfl,λ_=>rfl,by simpa[c] using s,by simpa[c] using v,by simpa[c] using r,by simpa[c] using q,by simpa[c] using p⟩
  ·have b:=zw G rfl;simp[qj0] at b;have O:l[0]?.getD false=true:=by(repeat(first | exact b | exact b.1 | replace b:=b.2))
   obtain rfl:=A O;clear b;refine zG rfl ?_;have D0:=qhp O;clear O;have H:=qhp (qi8 C (qi8 B (qi8 s (qi8 v (qi8 r (qi8 q p))))));have⟨W,n⟩:=qE d c;clear A s v r q p C B G d c I L;go_wp2_with (go_at_call 93;refine(QN lo G _ M b6 _ ⟨_,rfl,e9⟩ (by omega) h5).mono ?_;rintro e w5 ⟨rfl,X⟩;have P:=qhp X;clear X);have c:=n.out;have F:l[6]?.getD false=false:=by
    cases h:l[6]?.getD false with
    | false=>rfl
    | true=>have:=H.out.1 h;simp[W.out] at this
   have Q:l[7]?.getD false=false:=by
    cases h:l[7]?.getD false with
    | false=>rfl
    | true=>rw[H.2.1 h] at F;cases F
   have⟨C,B,s,v,r,q,p⟩:=H.out;exact⟨HG.t P,by simp[c,F],by simp[c,Q],T8,T9,_,_,z,u,rfl,λ_=>rfl,λ_=>by rw[l9],by simpa[c] using v,by simpa[c] using r,by intro h;have⟨o,e,hb,S,hn⟩:=q (by simpa[c] using h);exact⟨o,e,hb,by simpa[c] using bk P S,by simpa[c] using hn⟩,by intro h;have⟨k,e,hb,S⟩:=p (by simpa[c] using h);exact⟨k,e,hb,by simpa[c] using bk P S⟩⟩
  ·refine zG rfl ?_;have H:=qhp (qi8 C (qi8 B (qi8 A (qi8 s (qi8 v (qi8 r (qi8 q p)))))));have⟨W,n⟩:=qE d c;clear A s v r q p C B G d c I L;go_wp2;have c:=n.out;have⟨C,B,A,s,v,r,q,p⟩:=H.out;exact⟨HG,by simpa[c] using C,by simpa[c] using B,T8,T9,x,y,_,u,rfl,by simpa[c] using A,by simpa[c] using s,λ_=>rfl,by simpa[c] using r,by simpa[c] using q,by simpa[c] using p⟩
  ·have b:=zw G rfl;simp[qj0] at b;have d2:l[2]?.getD false=true:=by(repeat(first | exact b | exact b.1 | replace b:=b.2))
   obtain rfl:=v d2;clear b;refine zG rfl ?_;have D2:=qhp d2;clear d2;have H:=qhp (qi8 C (qi8 B (qi8 A (qi8 s (qi8 r (qi8 q p))))));have⟨W,n⟩:=qE d c;clear A s v r q p C B G d c I L;go_wp2_with (go_at_call 92;refine(Qo lo G _ M b6 _ ⟨_,rfl,e9⟩ (by omega) h5).mono ?_;rintro e w5 ⟨rfl,X⟩;have P:=qhp X;clear X);have c:=n.out;have F:l[6]?.getD false=false:=by
    cases h:l[6]?.getD false with
    | false=>rfl
    | true=>have:=H.out.1 h;simp[W.out] at this
   have Q:l[7]?.getD false=false:=by
    cases h:l[7]?.getD false with
    | false=>rfl
    | true=>rw[H.2.1 h] at F;cases F
   have⟨C,B,A,s,r,q,p⟩:=H.out;exact⟨HG.t P,by simp[c,F],by simp[c,Q],T8,T9,x,y,_,_,rfl,by simpa[c] using A,by simpa[c] using s,λ_=>rfl,λ_=>by rw[l8],by intro h;have⟨o,e,hb,S,hn⟩:=q (by simpa[c] using h);exact⟨o,e,hb,by simpa[c] using bk P S,by simpa[c] using hn⟩,by intro h;have⟨k,e,hb,S⟩:=p (by simpa[c] using h);exact⟨k,e,hb,by simpa[c] using bk P S⟩⟩
  ·refine zG rfl ?_;have H:=qhp (qi8 C (qi8 B (qi8 A (qi8 s (qi8 v (qi8 r (qi8 q p)))))));have⟨W,n⟩:=qE d c;clear A s v r q p C B G d c I L;go_wp2;have c:=n.out;have F:l[6]?.getD false=false:=by
    cases h:l[6]?.getD false with
    | false=>rfl
    | true=>have:=H.out.1 h;simp[W.out] at this
   have Q:l[7]?.getD false=false:=by
    cases h:l[7]?.getD false with
    | false=>rfl
    | true=>rw[H.2.1 h] at F;cases F
   have⟨C,B,A,s,v,r,q,p⟩:=H.out;refine⟨HG.t (qhq _ _ none),by simp[c,F],by simp[c,Q],_,T9,x,y,z,u,rfl,by simpa[c] using A,by simpa[c] using s,by simpa[c] using v,by simpa[c] using r,λ_=>⟨V.heap.size,rfl,e5,?_,λh=>?_⟩,by intro h;have⟨k,e,hb,S⟩:=p (by simpa[c] using h);exact⟨k,e,hb,by simpa[c] using qq S⟩⟩
   ·rw[show(l.setIfInBounds 4 true)[6]?.getD false=false by simp[c,F]];exact qhA V (qI λ_=>0)
   ·have⟨k,e2,_,S⟩:=p (by simpa[c] using h);have:=(qhs.1 S).1;rw[e2];intro e;simp at e;try omega
  ·refine zG rfl ?_;have H:=qhp (qi8 C (qi8 B (qi8 A (qi8 s (qi8 v (qi8 r (qi8 q p)))))));have⟨W,n⟩:=qE d c;clear A s v r q p C B G d c I L;go_wp2;have c:=n.out;have F:l[6]?.getD false=false:=by
    cases h:l[6]?.getD false with
    | false=>rfl
    | true=>have:=H.out.1 h;simp[W.out] at this
   have Q:l[7]?.getD false=false:=by
    cases h:l[7]?.getD false with
    | false=>rfl
    | true=>rw[H.2.1 h] at F;cases F
   have⟨C,B,A,s,v,r,q,p⟩:=H.out;refine⟨HG.t (qhq _ _ none),by simp[c,F],by simp[c,Q],T8,_,x,y,z,u,rfl,by simpa[c] using A,by simpa[c] using s,by simpa[c] using v,by simpa[c] using r,λh=>?_,λ_=>⟨V.heap.size,rfl,e5,?_⟩⟩
   ·have⟨o,e,hb,S,hn⟩:=q (by simpa[c] using h);refine⟨o,e,hb,by simpa[c] using qq S,λ_=>?_⟩;have:=(qhs.1 S).1;rw[e];intro e;simp at e;try omega
   ·rw[show(l.setIfInBounds 5 true)[7]?.getD false=false by simp[c,Q]];exact qhA V (qI λ_=>0)
  ·have b:=zw G rfl;simp[qj0] at b;have O:l[0]?.getD false=true:=by(repeat(first | exact b | exact b.1 | replace b:=b.2))
   have d1:l[1]?.getD false=true:=by(repeat(first | exact b | exact b.1 | replace b:=b.2))
   have d3:l[3]?.getD false=true:=by(repeat(first | exact b | exact b.1 | replace b:=b.2))
   have d4:l[4]?.getD false=true:=by(repeat(first | exact b | exact b.1 | replace b:=b.2))
   have U:l[5]?.getD false=true:=by(repeat(first | exact b | exact b.1 | replace b:=b.2))
   have D:=qhp (qi8 O (qi8 d1 (qi8 d3 (qi8 d4 U))));obtain⟨o,rfl,a6,g,N⟩:=q d4;obtain⟨k,rfl,Z,f⟩:=p U;obtain rfl:=s d1;obtain rfl:=r d3;obtain rfl:=A O;have N:k≠o:=λe=>N U (by rw[e]);have Q:l[7]?.getD false=false:=by
    cases h:l[7]?.getD false with
    | false=>rfl
    | true=>rw[B h] at d;cases d
   rw[d] at g;rw[Q] at f;have N7:=qhp Q;clear Q;simp only[qiv,if_true,if_false,reduceIte] at g f;have⟨d8,d7⟩:=qE g f;have a0:=qp g (show 0<5 by omega);have a1:=qp g (show 1<5 by omega);have a2:=qp g (show 2<5 by omega);have a3:=qp g (show 3<5 by omega);have a4:=qp g (show 4<5 by omega);have fz:=jw g;have p4:=(qhs.1 g).1;refine zG rfl ?_;have⟨W,K2,n⟩:=ze d v c;clear g f b O d1 d3 d4 U A s v r q p C B G d c I L;unfold wts;go_wp2;have c:=n.out;have hW:(((((V.setCell ⟨o,0,none⟩ (.int .i64 (T 0))).setCell ⟨o,1,none⟩ (.int .i64 (T 1))).setCell ⟨o,2,none⟩ (.int .i64 (T 2))).setCell ⟨o,3,none⟩ (.int .i64 (T 3))).setCell ⟨o,4,none⟩ (.int .i64 (T 4))).heap[o]?=some (qI T):=by
    rw[qi (qi (qi (qi (qi d8))))];rfl
   have hG:V.gb (((((V.setCell ⟨o,0,none⟩ (.int .i64 (T 0))).setCell ⟨o,1,none⟩ (.int .i64 (T 1))).setCell ⟨o,2,none⟩ (.int .i64 (T 2))).setCell ⟨o,3,none⟩ (.int .i64 (T 3))).setCell ⟨o,4,none⟩ (.int .i64 (T 4))) (some o) :=
    ((((qh _ _ _ _).t (qh _ _ _ _)).t (qh _ _ _ _)).t (qh _ _ _ _)).t (qh _ _ _ _)
   refine⟨HG.andThen (row':=some o) hG (by rintro j e;cases e;exact .inl (by omega)),?_,?_,_,_,_,_,_,_,rfl,λ_=>rfl,λ_=>rfl,?_,λ_=>rfl,λ_=>⟨o,rfl,a6,?_,λ_=>by intro e;simp at e;try omega⟩,λ_=>⟨k,rfl,Z,?_⟩⟩
   ·intro _;have⟨O,d1,d3,d4,U⟩:=D.out;simp[c,O,d1,d3,d4,U]
   ·intro h;rw[c 6 7 (by omega)] at h;simp[N7.out] at h
   ·simpa[c] using K2.out
   ·rw[show(l.setIfInBounds 6 true)[6]?.getD false=true by simp[c]];exact hW
   ·rw[show(l.setIfInBounds 6 true)[7]?.getD false=false by simp[c,N7.out]];exact blk hG (by simp;omega) d7
  ·have b:=zw G rfl;simp[qj0] at b;have O:l[0]?.getD false=true:=by(repeat(first | exact b | exact b.1 | replace b:=b.2))
   have d1:l[1]?.getD false=true:=by(repeat(first | exact b | exact b.1 | replace b:=b.2))
   have d3:l[3]?.getD false=true:=by(repeat(first | exact b | exact b.1 | replace b:=b.2))
   have d4:l[4]?.getD false=true:=by(repeat(first | exact b | exact b.1 | replace b:=b.2))
   have U:l[5]?.getD false=true:=by(repeat(first | exact b | exact b.1 | replace b:=b.2))
   have D:=qhp (qi8 O (qi8 d1 (qi8 d3 (qi8 d4 U))));have d6:l[6]?.getD false=true:=by(repeat(first | exact b | exact b.1 | replace b:=b.2))
   have D6:=qhp d6;obtain⟨o,rfl,a6,g,N⟩:=q d4;obtain⟨k,rfl,Z,f⟩:=p U;obtain rfl:=s d1;obtain rfl:=r d3;obtain rfl:=A O;have N:k≠o:=λe=>N U (by rw[e]);rw[d6] at g;rw[d] at f;clear d6;simp only[qiv,if_true,if_false,reduceIte] at g f;have⟨d8,d7⟩:=qE g f;have a0:=qp f (show 0<5 by omega);have a1:=qp f (show 1<5 by omega);have a2:=qp f (show 2<5 by omega);have a3:=qp f (show 3<5 by omega);have a4:=qp f (show 4<5 by omega);have fz:=jw f;have p3:=(qhs.1 f).1;refine zG rfl ?_;have⟨W,K2,n⟩:=ze d v c;clear g f b O d1 d3 d4 U A s v r q p C B G d c I L;unfold wts;go_wp2;have c:=n.out;have hW:(((((V.setCell ⟨k,0,none⟩ (.int .i64 (gx 0))).setCell ⟨k,1,none⟩ (.int .i64 (gx 1))).setCell ⟨k,2,none⟩ (.int .i64 (gx 2))).setCell ⟨k,3,none⟩ (.int .i64 (gx 3))).setCell ⟨k,4,none⟩ (.int .i64 (gx 4))).heap[k]?=some (qI gx):=by
    rw[qi (qi (qi (qi (qi d7))))];rfl
   have hG:V.gb (((((V.setCell ⟨k,0,none⟩ (.int .i64 (gx 0))).setCell ⟨k,1,none⟩ (.int .i64 (gx 1))).setCell ⟨k,2,none⟩ (.int .i64 (gx 2))).setCell ⟨k,3,none⟩ (.int .i64 (gx 3))).setCell ⟨k,4,none⟩ (.int .i64 (gx 4))) (some k) :=
    ((((qh _ _ _ _).t (qh _ _ _ _)).t (qh _ _ _ _)).t (qh _ _ _ _)).t (qh _ _ _ _)
   refine⟨HG.andThen (row':=some k) hG (by rintro j e;cases e;exact .inl (by omega)),?_,?_,_,_,_,_,_,_,rfl,λ_=>rfl,λ_=>rfl,?_,λ_=>rfl,λ_=>⟨o,rfl,a6,?_,λ_=>by intro e;simp at e;try omega⟩,λ_=>⟨k,rfl,Z,?_⟩⟩
   ·intro _;have⟨O,d1,d3,d4,U⟩:=D.out;simp[c,O,d1,d3,d4,U]
   ·intro _;simp[c,D6.out]
   ·simpa[c] using K2.out
   ·rw[show(l.setIfInBounds 7 true)[6]?.getD false=true by simp[c,D6.out]];exact blk hG (by simp;omega) d8
   ·rw[show(l.setIfInBounds 7 true)[7]?.getD false=true by simp[c]];exact hW
 ·intro l a V I hI hr;obtain⟨hg,C,B,T8,T9,x,y,z,u,rfl,A,s,v,r,q,p⟩:=hI;have q0:=zZ hr I (i:=0) rfl (by simp[qj0]);have q1:=zZ hr I (i:=1) rfl (by simp[qj0,q0]);have q2:=zZ hr I (i:=2) rfl (by simp[qj0]);have q3:=zZ hr I (i:=3) rfl (by simp[qj0,q1,q2]);have q4:=zZ hr I (i:=4) rfl (by simp[qj0]);have q5:=zZ hr I (i:=5) rfl (by simp[qj0]);have q6:=zZ hr I (i:=6) rfl (by simp[qj0,q0,q1,q2,q3,q4,q5]);have q7:=zZ hr I (i:=7) rfl (by simp[qj0,q0,q1,q2,q3,q4,q5,q6]);obtain⟨o,rfl,a6,g,N⟩:=q q4;obtain⟨k,rfl,Z,f⟩:=p q5;rw[q6] at g;rw[q7] at f;exact HR o k V x y z u hg (by simpa using g) (by simpa using f) (λe=>N q5 (by rw[e])) a6 Z
end
section
open Go Go.RowKit Go.Co
noncomputable def cB0:qkh:=inn (inn (sqB (sqA (sqB (sqB (Tryz.f137.body.getD .skip))))))
noncomputable def cB1:qkh:=inn (sqA (sqB (sqB cB0)))
noncomputable def cL2:qkh:=sqB (sqA (sqB (sqB (sqB cB1))))
noncomputable def cB3:qkh:=inn (sqA (sqB (sqB (inn (inn cL2)))))
noncomputable def cIn:qkh:=sqB (sqB cB3)
def YU(g:Nat->Int)(n:Nat)(v:Int):Nat->Int:=λd=>if d=n then v else g d
def ZL(g:Nat->Int):List qhu:=[.int .i64 (g 0),.int .i64 (g 1),.int .i64 (g 2),.int .i64 (g 3),.int .i64 (g 4)]
def ja(L:List (Nat->Int)):List qhu:=L.flatMap ZL
def vj(g:Nat->Int)(n:Nat)(a:Int)(k:Nat):List (Nat->Int):=(qil k).map λm:Nat=>YU g n (a+(m:Int))
def q6e(g:Nat->Int)(n:Nat)(a:Int)(k:Nat):vj g n a (k+1)=vj g n a k++[YU g n (a+k)]:=by
 simp[vj,qlo]
def q8B(g:Nat->Int)(n:Nat)(a:Int)(k:Nat):(vj g n a k).length=k:=by simp[vj]
def q6o(L:List (Nat->Int))(g:Nat->Int):ja (L++[g])=ja L++ZL g:=by simp[ja]
def qb6(g:Nat->Int):zD (ZL g):=by
 intro v a;simp only[ZL,qjr,qjG,or_false] at a;rcases a with rfl | rfl | rfl | rfl | rfl<;>exact⟨_,_,rfl⟩
def Tp.und152:Ya.underlying 152=some (.slice 101):=by rw[Tp.und];exact Tryz.underlying152
def Tp.info101p:(Ya.info? 101).map (λi=>(i.zero,i.size,i.bytes))=some (some (.agg #[.int .i64 0,.int .i64 0,.int .i64 0,.int .i64 0,.int .i64 0]),5,40):=by kernel_rfl
def q8n(g:Nat->Int)(n:Nat)(a b:Int):(λd=>if d=n then b else YU g n a d)=YU g n b:=by
 funext d
 unfold YU;split<;>rfl
def gAt(g:Nat->Int)(n:Nat)(a:Int)(m:Nat):Nat->Int:=if m=0 then g else YU g n (a+(m - 1:Int))
def qdG(g:Nat->Int)(n:Nat)(a:Int)(m:Nat):(λd=>if d=n then a+(m:Int) else gAt g n a m d)=YU g n (a+m):=by
 unfold gAt;split
 ·rfl
 ·exact q8n _ _ _ _
def qbE(g:Nat->Int)(n:Nat)(a:Int)(m:Nat):gAt g n a (m+1)=YU g n (a+m):=by
 unfold gAt;simp
def qbz(t:Nat->qhu)(c w:qhr)(R:Act->qhr->Prop)(n S a k:Nat)(h mx:Int)(g:Nat->Int)(L:List (Nat->Int))(nv:qhu)(h7:t 7=.int .i64 n)(hn:n<5)(h8:t 8=nv)(h9:t 9=.pointer (some S))(s:c.heap[S]?=some (.cells #[h,mx] 26 (0,0)))(G:t 11=.pointer (some a))(hW:w.heap[a]?=some (qI g))(e8:c.heap.size<=a)(F:t 39=.int .i64 k)(D:t 40=.int .i64 0)(hg:c.gb w none)(q:w.ownsRow c.heap.size 101 5 nv L.length (ja L))(hI:∀b,nv.ownBlock=some b->zx w b/\b≠a)(p5:0<=h/\h<=1000)(hk:k<=2000)(hL:L.length+k<=900000)(hR:∀(T b9 b8 b7 b6 b0 a9 a8 a7 a6 Z Y X W V U:qhu) w',c.gb w' none->w'.ownsRow c.heap.size 101 5 T (L.length+k) (ja (L++vj g n h k))->(∀b,T.ownBlock=some b->zx w' b) ->R ⟨#[t 0,t 1,t 2,t 3,t 4,t 5,t 6,.int .i64 n,T,.pointer (some S),t 10,.pointer (some a),b9,t 13,t 14,t 15,t 16,t 17,t 18,t 19,t 20,t 21,t 22,t 23,t 24,t 25,t 26,t 27,t 28,t 29,t 30,t 31,t 32,t 33,t 34,t 35,t 36,t 37,t 38,.int .i64 k,b8,b7,b6,b0,a9,a8,a7,a6,Z,Y,X,W,V,U,t 54,t 55,t 56,t 57],[]⟩ w') :(inn cIn).wp Ya (qmr 4 (yt R)) ⟨#[t 0,t 1,t 2,t 3,t 4,t 5,t 6,t 7,t 8,t 9,t 10,t 11,t 12,t 13,t 14,t 15,t 16,t 17,t 18,t 19,t 20,t 21,t 22,t 23,t 24,t 25,t 26,t 27,t 28,t 29,t 30,t 31,t 32,t 33,t 34,t 35,t 36,t 37,t 38,t 39,t 40,t 41,t 42,t 43,t 44,t 45,t 46,t 47,t 48,t 49,t 50,t 51,t 52,t 53,t 54,t 55,t 56,t 57],[]⟩ w:=by
 have⟨i0,e6,e4,d9,d8⟩:=qjx Tp.info101p;have⟨HR,HO,HW,HG,HN,HI⟩:=Kq hR s hW hg q hI;have p9:S<c.heap.size:=(qhs.1 s).1;clear hR s hW hg q hI;rw[h7,h8,h9,G,F,D];clear h7 h8 h9 G F D;simp only[cIn,cB3,cL2,cB1,cB0,qqp,qhC,sqA,sqB,inn];go_wp2;go_loopw [8,40] (λov iv wr=>∃m:Nat,iv=.int .i64 m/\m<=k/\c.gb wr none/\wr.heap[a]?=some (qI (gAt g n h m))/\wr.ownsRow c.heap.size 101 5 ov (L.length+m) (ja (L++vj g n h m))/\∀b,ov.ownBlock=some b->zx wr b/\b≠a) (λ_ iv _=>(k - qiF iv).toNat)
 case atStart=>exact⟨0,rfl,by omega,HG,HW,by simpa[vj] using HN.out,HI⟩
 case round=>
  obtain⟨m,rfl,hm,P,A,s,hN⟩:=hrel;obtain⟨oa,om,oc,rfl⟩:=zB s;have⟨N,k0,M,z⟩:=j8 P A s hN;have o0:=P.cl (q8 HO (o:=0) rfl);have p8:a<wr.heap.size:=(qhs.1 A).1;by_cases p6:m<k
  ·have d1:=qp A hn;have f1:=jw A;have l6:(m:Int)<(k:Int):=by omega
   have p3:(n:Int)<5:=by omega
   clear P A s hN;have k9:IntKind.i64.wrap (h+(m:Int))=h+m:=qin _ (by omega);go_upto_region 14 with(fail);obtain⟨d,i⟩:∃d,d=wr.setCell ⟨a,n,none⟩ (.int .i64 (h+m)):=⟨_,rfl⟩;have u:d.heap[a]?=some (qI (YU g n (h+m))):=by
    rw[i,<- qdG];exact Qi k0 hn
   have Q:wr.gb d (some a):=by rw[i];exact qh _ _ _ _
   have q2:c.gb d none:=N.out.andThen Q (by rintro j e;cases e;exact .inl e8);have q3:d.ownsRow c.heap.size 101 5 (.slice oa om oc) (L.length+m) (ja (L++vj g n h m)):=M.out.kept Q (.inr λe=>by
    have:=(z _ e).2;exact this rfl)
   have q4:∀b,(qjc oa om oc).ownBlock=some b->zx d b/\b≠a:=λb x=>by
    have⟨⟨cs,e,f,h1,h2⟩,h3⟩:=z.out b x;exact⟨⟨cs,e,f,blk Q (by intro e;cases e;exact h3 rfl) h1,h2⟩,h3⟩
   have e5:d.heap.size=wr.heap.size:=by rw[i];simp
   have r0:=qp u (show 0<5 by omega);have r1:=qp u (show 1<5 by omega);have r2:=qp u (show 2<5 by omega);have r3:=qp u (show 3<5 by omega);have r4:=qp u (show 4<5 by omega);rw[<- i];have⟨I,g7,H,y⟩:=j8 u q2 q3 q4;have l8:a<d.heap.size:=by omega
   have p4:c.heap.size<=d.heap.size:=q2.size;clear u q2 q3 q4 Q i d1 f1 o0 e5;generalize B:YU g n (h+(m:Int))=gg at r0 r1 r2 r3 r4 I;go_wp2_with (at_builtin;(refine Zc (by rfl) _ _ _ (by rfl) c.heap.size 101 i0 _ 5 40 Tp.und152 e6 e4 d9 d8 rfl (by omega) (.slice oa om oc) (L.length+m) (ja (L++vj g n h m)) (by rfl) (by exact H.alloc _) ⟨d.heap.size,0,none⟩ 1 1 (ZL gg) (by rfl) (by rfl) (qje (cs:=(ZL gg).toArray) (t:=101) (fr:=(0,0)) (qhA d _)) (by simp[ZL,qjD]) (by omega) (by unfold qlg;omega) (by omega) (by simp;omega) (d.heap.size+1) (by simp) (λb x=>by have⟨⟨cs,e,f,h1,h2⟩,_⟩:=y.out b x;exact⟨cs,e,f,qq h1,h2⟩) (qb6 gg) (by intro v hv;simp[Value.cells] at hv;exact⟨_,_,hv⟩) ?_);intro gi q5 w5 l p C p7 r;have O:=qhp p;have g8:=qhp l;have k5:=qhp C;have g9:=qhp r;clear p l C r);refine⟨⟨m+1,by simp,by omega,?_,?_,?_,?_⟩,by simp[qiF];omega⟩
   ·exact(g7.t (qhq _ _ none)).andThen O λj e=>.inl (H.lt j e).1
   ·rw[qbE,B];exact blk O (λe=>(y a e.symm).2 rfl) (qq I)
   ·rw[q6e,<- qk8,q6o,B];exact g8
   ·intro b x;have e7:gi=b:=by simpa[qix] using x
    subst e7;refine⟨g9,?_⟩;rcases k5 with e | e
    ·exact(y gi e).2
    ·omega
  ·obtain rfl:m=k:=by omega
   clear P A s hN;go_wp2;exact HR _ _ _ _ _ _ _ _ _ _ _ _ _ _ _ _ wr N M λb x=>(z b x).1
def q7p(x:Array qhu)(h:x.size=58):∃y0 y1 y2 y3 y4 y5 y6 y7 y8 y9 a9 a8 a7 a6 Z Y X W V U T S R Q P O N M L I H G F D C B A z y w v u s r q p o n l k j i g f d c b a,x=#[y0,y1,y2,y3,y4,y5,y6,y7,y8,y9,a9,a8,a7,a6,Z,Y,X,W,V,U,T,S,R,Q,P,O,N,M,L,I,H,G,F,D,C,B,A,z,y,w,v,u,s,r,q,p,o,n,l,k,j,i,g,f,d,c,b,a]:=by
 have e:=QQ x;rw[h] at e;exact⟨_,_,_,_,_,_,_,_,_,_,_,_,_,_,_,_,_,_,_,_,_,_,_,_,_,_,_,_,_,_,_,_,_,_,_,_,_,_,_,_,_,_,_,_,_,_,_,_,_,_,_,_,_,_,_,_,_,_,e.t rfl⟩
def qh6(z:Array qhu)(h:z.size=58):z=#[z[0]?.getD qhx,z[1]?.getD qhx,z[2]?.getD qhx,z[3]?.getD qhx,z[4]?.getD qhx,z[5]?.getD qhx,z[6]?.getD qhx,z[7]?.getD qhx,z[8]?.getD qhx,z[9]?.getD qhx,z[10]?.getD qhx,z[11]?.getD qhx,z[12]?.getD qhx,z[13]?.getD qhx,z[14]?.getD qhx,z[15]?.getD qhx,z[16]?.getD qhx,z[17]?.getD qhx,z[18]?.getD qhx,z[19]?.getD qhx,z[20]?.getD qhx,z[21]?.getD qhx,z[22]?.getD qhx,z[23]?.getD qhx,z[24]?.getD qhx,z[25]?.getD qhx,z[26]?.getD qhx,z[27]?.getD qhx,z[28]?.getD qhx,z[29]?.getD qhx,z[30]?.getD qhx,z[31]?.getD qhx,z[32]?.getD qhx,z[33]?.getD qhx,z[34]?.getD qhx,z[35]?.getD qhx,z[36]?.getD qhx,z[37]?.getD qhx,z[38]?.getD qhx,z[39]?.getD qhx,z[40]?.getD qhx,z[41]?.getD qhx,z[42]?.getD qhx,z[43]?.getD qhx,z[44]?.getD qhx,z[45]?.getD qhx,z[46]?.getD qhx,z[47]?.getD qhx,z[48]?.getD qhx,z[49]?.getD qhx,z[50]?.getD qhx,z[51]?.getD qhx,z[52]?.getD qhx,z[53]?.getD qhx,z[54]?.getD qhx,z[55]?.getD qhx,z[56]?.getD qhx,z[57]?.getD qhx]:=by
 obtain⟨y0,y1,y2,y3,y4,y5,y6,y7,y8,y9,a7,a6,Z,Y,X,W,V,U,T,S,R,Q,P,O,N,M,L,I,H,G,F,D,C,B,A,y,x,w,v,u,t,s,r,q,p,o,n,l,k,j,i,g,f,e,d,c,b,a,rfl⟩:=q7p z h;rfl
def ji:List Nat:=[8,12,40,41,42,43,44,45,46,47,48,49,50,51,52,53]
def qby(z:Array qhu)(hz:z.size=58)(a w:qhr)(R:Act->qhr->Prop)(n u e k:Nat)(i D:Int)(g:Nat->Int)(L:List (Nat->Int))(h:qhu)(h7:z[7]?=some (.int .i64 n))(s:n<5)(h8:z[8]?=some h)(h9:z[9]?=some (.pointer (some u)))(hO:a.heap[u]?=some (.cells #[i,D] 26 (0,0)))(B:z[11]?=some (.pointer (some e)))(hW:w.heap[e]?=some (qI g))(x:a.heap.size<=e)(A:z[39]?=some (.int .i64 k))(y:z[40]?=some (.int .i64 0))(hg:a.gb w none)(o:w.ownsRow a.heap.size 101 5 h L.length (ja L))(hI:∀b,h.ownBlock=some b->zx w b/\b≠e)(v:0<=i/\i<=1000)(hk:k<=2000)(hL:L.length+k<=900000)(hR:∀(r:Array qhu) (f:qhu) d,r.size=58->r[8]?=some f->(∀j,j<58->j∉ji->r[j]?=z[j]?)->a.gb d none->d.ownsRow a.heap.size 101 5 f (L.length+k) (ja (L++vj g n i k))->(∀b,f.ownBlock=some b->zx d b)->R ⟨r,[]⟩ d) :(inn cIn).wp Ya (qmr 4 (yt R)) ⟨z,[]⟩ w:=by
 generalize c:(λk:Nat=>z[k]?.getD qhx)=t;have l:z=#[t 0,t 1,t 2,t 3,t 4,t 5,t 6,t 7,t 8,t 9,t 10,t 11,t 12,t 13,t 14,t 15,t 16,t 17,t 18,t 19,t 20,t 21,t 22,t 23,t 24,t 25,t 26,t 27,t 28,t 29,t 30,t 31,t 32,t 33,t 34,t 35,t 36,t 37,t 38,t 39,t 40,t 41,t 42,t 43,t 44,t 45,t 46,t 47,t 48,t 49,t 50,t 51,t 52,t 53,t 54,t 55,t 56,t 57]:=by subst c;exact qh6 z hz
 have G:t 7=.int .i64 n:=by subst c;show z[7]?.getD qhx=_;rw[h7];rfl
 have e8:t 8=h:=by subst c;show z[8]?.getD qhx=_;rw[h8];rfl
 have F:t 9=.pointer (some u):=by subst c;show z[9]?.getD qhx=_;rw[h9];rfl
 have q:t 11=.pointer (some e):=by subst c;show z[11]?.getD qhx=_;rw[B];rfl
 have p:t 39=.int .i64 k:=by subst c;show z[39]?.getD qhx=_;rw[A];rfl
 have C:t 40=.int .i64 0:=by subst c;show z[40]?.getD qhx=_;rw[y];rfl
 rw[l];refine qbz t a w R n u e k i D g L h G s e8 F hO q hW x p C hg o hI v hk hL ?_;intro f Z Y X W V U T S Q P O N M I H d a1 a2 a3;refine hR _ f d rfl rfl (λj hj s=>?_) a1 a2 a3;rw[l,<- G,<- F,<- q,<- p];unfold ji at s;obtain rfl | rfl | rfl | rfl | rfl | rfl | rfl | rfl | rfl | rfl | rfl | rfl | rfl | rfl | rfl | rfl | rfl | rfl | rfl | rfl | rfl | rfl | rfl | rfl | rfl | rfl | rfl | rfl | rfl | rfl | rfl | rfl | rfl | rfl | rfl | rfl | rfl | rfl | rfl | rfl | rfl | rfl | rfl | rfl | rfl | rfl | rfl | rfl | rfl | rfl | rfl | rfl | rfl | rfl | rfl | rfl | rfl | rfl:j=0\/j=1\/j=2\/j=3\/j=4\/j=5\/j=6\/j=7\/j=8\/j=9\/j=10\/j=11\/j=12\/j=13\/j=14\/j=15\/j=16\/j=17\/j=18\/j=19\/j=20\/j=21\/j=22\/j=23\/j=24\/j=25\/j=26\/j=27\/j=28\/j=29\/j=30\/j=31\/j=32\/j=33\/j=34\/j=35\/j=36\/j=37\/j=38\/j=39\/j=40\/j=41\/j=42\/j=43\/j=44\/j=45\/j=46\/j=47\/j=48\/j=49\/j=50\/j=51\/j=52\/j=53\/j=54\/j=55\/j=56\/j=57:=by omega
 all_goals first | rfl | (exact absurd (by simp) s)
def kq(L:List (Nat->Int))(n:Nat)(a:Int)(k:Nat):List (Nat->Int):=L.flatMap λg=>vj g n a k
def vL(L:List (Nat->Int))(n:Nat)(a:Int)(k:Nat):(kq L n a k).length=L.length*k:=by
 unfold kq;induction L with
 | nil=>simp
 | cons g L b=>simp only[qkl,qj1,q8B,b,qhE];rw[qoc];omega
def q5t(L:List (Nat->Int))(n:Nat)(a:Int)(k:Nat)(i:Nat)(g:Nat->Int)(h:L[i]?=some g):kq (L.take (i+1)) n a k=kq (L.take i) n a k++vj g n a k:=by
 rw[qj7,h];simp[kq]
def q1x(L:List (Nat->Int))(i:Nat)(g:Nat->Int)(h:L[i]?=some g)(d:Nat)(c:d<5):(ja L)[i*5+d]?=some (.int .i64 (g d)):=by
 unfold ja;induction L generalizing i with
 | nil=>simp at h
 | cons b L a=>
  cases i with
  | zero=>
   simp at h;subst h;rw[qkl,qir (by simp[ZL];omega)];obtain rfl | rfl | rfl | rfl | rfl:d=0\/d=1\/d=2\/d=3\/d=4:=by omega
   all_goals simp[ZL]
  | succ i=>
   simp at h;rw[qkl,qjv (by simp[ZL];omega)];rw[show(i+1)*5+d - (ZL b).length=i*5+d from by simp[ZL];omega];exact a i h
def yk{R:Act->qhr->Prop}{Q:Exit->Act->qhr->Prop}{id:Nat}(h:∀a w,R a w->Q .normal a w):∀e a w,qmr id (yt R) e a w->qmr id Q e a w:=by
 intro e a w b;cases e with
 | normal=>exact h a w b
 | exit i=>
  unfold qmr at b ⊢;by_cases d:i=id
  ·simp only[d,if_true] at b ⊢;exact h a w b
  ·simp only[d,if_false] at b;exact b.elim
 | goto l=>exact b.elim
 | ret=>exact b.elim
 | panic c=>exact b.elim
 | outgrown=>exact b.elim
def xL{c c':qkh}{P:qhF}{Q:Exit->Act->qhr->Prop}{a:Act}{w:qhr}(e:c=c')(h:c'.wp P Q a w):c.wp P Q a w:=e ▸ h
def qfu(z:Array qhu)(hz:z.size=58)(w:qhr)(R:Act->qhr->Prop)(n OB A oc base k:Nat)(p x:Int)(L:List (Nat->Int))(h7:z[7]?=some (.int .i64 n))(hn:n<5)(h8:z[8]?=some (.slice none 0 0))(h9:z[9]?=some (.pointer (some OB)))(D:w.heap[OB]?=some (.cells #[p,x] 26 (0,0)))(d9:z[28]?=some (.slice (some A) L.length oc))(d8:z[29]?=some (.int .i64 L.length))(y:z[30]?=some (.int .i64 0))(C:w.ownsRow base 101 5 (.slice (some A) L.length oc) L.length (ja L))(p3:0<=p/\p<=x/\x<=1000)(hk:(k:Int)=x - p+1)(hL:L.length*k<=900000)(hR:∀(l:Array qhu) (s:qhu) N,l.size=58->l[8]?=some s->(∀j,j<58->j<8\/(8<j/\j<11)\/(12<j/\j<30)\/54<j->l[j]?=z[j]?)->w.gb N none->N.ownsRow w.heap.size 101 5 s (L.length*k) (ja (kq L n p k))->(∀b,s.ownBlock=some b->zx N b)->R ⟨l,[]⟩ N) :(inn cL2).wp Ya (qmr 2 (yt R)) ⟨z,[]⟩ w:=by
 obtain⟨y0,y1,y2,y3,y4,y5,y6,y7,y8,y9,n7,B9,B8,n6,n4,n3,n2,m9,m8,m7,m6,m5,m4,m3,l9,l8,l7,l6,B6,B5,B3,A9,A8,A7,A6,A4,A3,A0,z7,z5,z3,z2,z1,z0,x7,x6,x5,x4,x3,x2,x0,w9,w8,w7,w6,l5,l4,k8,rfl⟩:=q7p z hz;simp at h7 h8 h9 d9 d8 y;subst h7 h8 h9 d9 d8 y;have⟨HR,HO,HL⟩:=ze hR D C;have K1:OB<w.heap.size:=(qhs.1 D).1;have K2:L.length<=900000:=qhB (Nat.le_mul_of_pos_right _ (by omega)) hL;clear hR D C hz;simp only[cL2,cB1,cB0,qqp,qhC,sqA,sqB,inn];go_wp2;go_loopw [8,30] (λov iv wr=>∃i:Nat,iv=.int .i64 i/\i<=L.length/\w.gb wr none/\wr.ownsRow w.heap.size 101 5 ov (i*k) (ja (kq (L.take i) n p k))/\∀b,ov.ownBlock=some b->zx wr b) (λ_ iv _=>(L.length - qiF iv).toNat)
 case atStart=>exact⟨0,rfl,by omega,qhD _ _,by simpa[kq,ja] using qjF w w.heap.size 101 5,λb hb=>by simp[qix] at hb⟩
 case round=>
  obtain⟨i,rfl,hi,G,D,hN⟩:=hrel;obtain⟨P,O,q,rfl⟩:=zB D;have⟨g5,I,e9⟩:=ze G D hN;have H7:=G.size;by_cases d7:i<L.length
  ·obtain⟨g,hg⟩:∃g,L[i]?=some g:=⟨_,qhz d7⟩;have hA:=(HL.lt A rfl).2;have M:∀d,d<5->wr.cell? ⟨A,i*5+d,none⟩=some (.int .i64 (g d)):=λd hd=>by
    have B:=HL.out.cellAt (i*5+d) (by omega);rw[q1x L i g hg d hd] at B;exact G.cl B
   have c0:wr.cell? ⟨A,i*5,none⟩=some (.int .i64 (g 0)):=M 0 (by omega);have c1:=M 1 (by omega);have c2:=M 2 (by omega);have c3:=M 3 (by omega);have c4:=M 4 (by omega);have o0:=G.cl (q8 HO (o:=0) rfl);have o1:=G.cl (q8 HO (o:=1) rfl);have t5:(i:Int)<(L.length:Int):=by omega
   have H6:IntKind.i64.wrap (x - p)=x - p:=qin _ (by omega);have H5:IntKind.i64.wrap (x - p+1)=x - p+1:=qin _ (by omega);have q7:=qhp hg;clear G D hN M hg;go_upto_region 10 with(fail);obtain⟨H,F⟩:∃H,H=wr.heap.size:=⟨_,rfl⟩;obtain⟨v,h⟩:∃v,v=wr.alloc (qI g):=⟨_,rfl⟩;have q1:v.heap[H]?=some (qI g):=by rw[h,F];exact qhA wr _
   have g1:wr.gb v none:=by rw[h];exact qhq _ _ none
   have q2:w.gb v none:=g5.out.t g1;have q3:v.ownsRow w.heap.size 101 5 (.slice P O q) (i*k) (ja (kq (L.take i) n p k)):=by rw[h];exact I.alloc _
   have q4:∀b,(qjc P O q).ownBlock=some b->zx v b/\b≠H:=λb hb=>by
    have⟨cs,e,f,B,h2⟩:=e9.out b hb;exact⟨⟨cs,e,f,by rw[h];exact qq B,h2⟩,by have:=(I.lt b hb).2;omega⟩
   have p0:=g1.cl o0;have p1:=g1.cl o1;rw[<- F];rw[show wr.alloc (.cells #[.int .i64 (g 0),.int .i64 (g 1),.int .i64 (g 2),.int .i64 (g 3),.int .i64 (g 4)] 101)=v from h.symm];have⟨q5,q0,p9,p8⟩:=j8 q1 q2 q3 q4;have p6:w.heap.size<=H:=by omega
   clear q1 q2 q3 q4 g1 h F c0 c1 c2 c3 c4 o0 o1;go_wp2;refine qoo (yk (R:=λa u=>∃(l:Array qhu) (s:qhu),a=⟨l,[]⟩/\l.size=58/\l[8]?=some s/\(∀j,j<58->j∉ji->l[j]?=(#[y0,y1,y2,y3,y4,y5,y6,.int .i64 n,.slice P O q,.pointer (some OB),n7,.pointer (some H),qhx,n6,n4,n3,n2,m9,m8,m7,m6,m5,m4,m3,l9,l8,l7,l6,.slice (some A) L.length oc,.int .i64 L.length,.int .i64 i]:Array qhu)[j]?\/30<j)/\(l[55]?=some l5/\l[56]?=some l4/\l[57]?=some k8)/\w.gb u none/\u.ownsRow w.heap.size 101 5 s ((i+1)*k) (ja (kq (L.take (i+1)) n p k))/\∀b,s.ownBlock=some b->zx u b) ?_) ?_;rotate_left
   ·refine xL (c':=inn cIn) (by simp only[cIn,cB3,cL2,cB1,cB0,qqp,qhC,sqA,sqB,inn]) ?_;have r:(kq (L.take i) n p k).length=i*k:=by rw[vL,qky,qq8 (by omega)]
    have p4:i*k+k<=900000:=by
     have B:(i+1)*k<=L.length*k:=Nat.mul_le_mul_right _ d7;rw[qoc] at B;omega
    refine qby _ rfl w v _ n OB H k p x g (kq (L.take i) n p k) (.slice P O q) rfl hn rfl rfl HO rfl q5 p6 (by rw[hk];rfl) rfl q0 (by rw[r];exact p9) p8 ⟨p3.1,by omega⟩ (by omega) (by rw[r];exact p4) ?_;intro l s N b1 b2 b3 b4 b5 b6;refine⟨l,s,rfl,b1,b2,λj hj hn=>?_,⟨(b3 55 (by omega) (by simp[ji])).t rfl,(b3 56 (by omega) (by simp[ji])).t rfl,(b3 57 (by omega) (by simp[ji])).t rfl⟩,b4,?_,b6⟩
    ·by_cases y:30<j
     ·exact .inr y
     ·left;rw[b3 j hj hn];have L2:j≠12:=λe=>hn (by subst e;simp[ji]);obtain rfl | rfl | rfl | rfl | rfl | rfl | rfl | rfl | rfl | rfl | rfl | rfl | rfl | rfl | rfl | rfl | rfl | rfl | rfl | rfl | rfl | rfl | rfl | rfl | rfl | rfl | rfl | rfl | rfl | rfl:j=0\/j=1\/j=2\/j=3\/j=4\/j=5\/j=6\/j=7\/j=8\/j=9\/j=10\/j=11\/j=13\/j=14\/j=15\/j=16\/j=17\/j=18\/j=19\/j=20\/j=21\/j=22\/j=23\/j=24\/j=25\/j=26\/j=27\/j=28\/j=29\/j=30:=by omega
      all_goals rfl
    ·rw[r] at b5;rw[q5t L n p k i g q7,qoc,Nat.one_mul];exact b5
   ·rintro a u ⟨l,s,rfl,d6,e8,c,⟨e6,e5,e4⟩,f1,f2,f3⟩;obtain⟨v0,v1,v2,v3,v4,v5,v6,v7,v8,v9,H1,H0,G9,G8,G7,G6,G5,G4,G3,G2,G1,F9,F8,F7,F6,F5,F4,F3,F2,F1,E9,E8,E7,E6,E5,E4,E3,E2,E1,E0,D9,D8,D7,D6,D5,D4,D3,D2,D1,D0,C9,C8,C7,C6,C5,C4,C3,C2,rfl⟩:=q7p l d6;simp at e8 e6 e5 e4;subst e8 e6 e5 e4;have k0:=(c 0 (by omega) (by simp[ji])).resolve_right (by omega);have k1:=(c 1 (by omega) (by simp[ji])).resolve_right (by omega);have k2:=(c 2 (by omega) (by simp[ji])).resolve_right (by omega);have k3:=(c 3 (by omega) (by simp[ji])).resolve_right (by omega);have k4:=(c 4 (by omega) (by simp[ji])).resolve_right (by omega);have k5:=(c 5 (by omega) (by simp[ji])).resolve_right (by omega);have k6:=(c 6 (by omega) (by simp[ji])).resolve_right (by omega);have k7:=(c 7 (by omega) (by simp[ji])).resolve_right (by omega);have k9:=(c 9 (by omega) (by simp[ji])).resolve_right (by omega);have d5:=(c 10 (by omega) (by simp[ji])).resolve_right (by omega);have c9:=(c 11 (by omega) (by simp[ji])).resolve_right (by omega);have c8:=(c 13 (by omega) (by simp[ji])).resolve_right (by omega);have b9:=(c 14 (by omega) (by simp[ji])).resolve_right (by omega);have b8:=(c 15 (by omega) (by simp[ji])).resolve_right (by omega);have b7:=(c 16 (by omega) (by simp[ji])).resolve_right (by omega);have b0:=(c 17 (by omega) (by simp[ji])).resolve_right (by omega);have a9:=(c 18 (by omega) (by simp[ji])).resolve_right (by omega);have a8:=(c 19 (by omega) (by simp[ji])).resolve_right (by omega);have a7:=(c 20 (by omega) (by simp[ji])).resolve_right (by omega);have a6:=(c 21 (by omega) (by simp[ji])).resolve_right (by omega);have Z:=(c 22 (by omega) (by simp[ji])).resolve_right (by omega);have Y:=(c 23 (by omega) (by simp[ji])).resolve_right (by omega);have X:=(c 24 (by omega) (by simp[ji])).resolve_right (by omega);have W:=(c 25 (by omega) (by simp[ji])).resolve_right (by omega);have V:=(c 26 (by omega) (by simp[ji])).resolve_right (by omega);have U:=(c 27 (by omega) (by simp[ji])).resolve_right (by omega);have T:=(c 28 (by omega) (by simp[ji])).resolve_right (by omega);have S:=(c 29 (by omega) (by simp[ji])).resolve_right (by omega);have Q:=(c 30 (by omega) (by simp[ji])).resolve_right (by omega);clear c d6;simp at k0 k1 k2 k3 k4 k5 k6 k7 k9 d5 c9 c8 b9 b8 b7 b0 a9 a8 a7 a6 Z Y X W V U T S Q;subst k0 k1 k2 k3 k4 k5 k6 k7 k9 d5 c9 c8 b9 b8 b7 b0 a9 a8 a7 a6 Z Y X W V U T S Q;have⟨r5,r4,r3⟩:=ze f1 f2 f3;clear f1 f2 f3 p0 p1;have H4:IntKind.i64.wrap ((i:Int)+1)=i+1:=qin _ (by omega);dsimp only;go_wp2;go_roundw
    case rel=>exact⟨i+1,by simp,by omega,r5,r4,r3⟩
    case measure=>simp[qiF];omega
  ·obtain rfl:i=L.length:=by omega
   clear G D hN;go_wp2;refine HR _ (.slice P O q) wr rfl rfl (λj hj hc=>?_) g5 ?_ e9
   ·obtain rfl | rfl | rfl | rfl | rfl | rfl | rfl | rfl | rfl | rfl | rfl | rfl | rfl | rfl | rfl | rfl | rfl | rfl | rfl | rfl | rfl | rfl | rfl | rfl | rfl | rfl | rfl | rfl | rfl | rfl:j=0\/j=1\/j=2\/j=3\/j=4\/j=5\/j=6\/j=7\/j=9\/j=10\/j=13\/j=14\/j=15\/j=16\/j=17\/j=18\/j=19\/j=20\/j=21\/j=22\/j=23\/j=24\/j=25\/j=26\/j=27\/j=28\/j=29\/j=55\/j=56\/j=57:=by omega
    all_goals rfl
   ·have B:=I.out;rw[qjs] at B;exact B
def kOf(p:Par):Nat:=(p.mx - p.mn+1).toNat
def vp(a:List Par)(L:List (Nat->Int))(x:Int):List (Nat->Int):=match a[x.toNat]? with | some p=>kq L x.toNat p.mn (kOf p) | none=>L
def yZ(b:List Par)(a:List Int):List (Nat->Int):=a.foldl (vp b) [λ_=>0]
def q9v(b:List Par)(a:List Int)(i:Nat)(x:Int)(p:Par)(h:a[i]?=some x)(c:b[x.toNat]?=some p):yZ b (a.take (i+1))=kq (yZ b (a.take i)) x.toNat p.mn (kOf p):=by
 rw[qj7,h];simp[yZ,qms,vp,c]
def q9u(lo hi:Nat)(yv vv:qhu)(d:List Par)(g:Int)(c:List Int)(w:qhr)(hY:jf lo hi w yv d g)(hI:qg lo hi w vv c)(C6:hi<=w.heap.size)(h5:d.length<=5)(hx:∀x∈c,0<=x/\x<d.length)(hp:∀p∈d,0<=p.mn/\p.mn<=p.mx/\p.mx<=1000)(Q:∀j,j<=c.length->(yZ d (c.take j)).length<=900000) :qis Ya 137 #[yv,vv] w λe w'=>∃v,e=.returned v/\w.gb w' none/\w'.ownsRow w.heap.size 101 5 v (yZ d c).length (ja (yZ d c))/\∀b,v.ownBlock=some b->zx w' b:=by
 obtain⟨qv,rfl,hP⟩:=hY;obtain⟨yb,S,rfl,B9,-⟩:=hP.cell;obtain⟨base,b7,rfl,C5,-⟩:=hI.cell;obtain⟨A,X⟩:∃A,A=w.heap.size:=⟨_,rfl⟩;obtain⟨k,h⟩:∃k,k=(w.alloc (.cells #[.slice yb d.length S,g] 91)).alloc (qI λ_=>0):=⟨_,rfl⟩;have z:w.gb k none:=by rw[h];exact(qhq _ _ none).t (qhq _ _ none)
 have W:k.heap[A]?=some (.cells #[.slice yb d.length S,g] 91 (0,0)):=by rw[h,X];exact qq (qhA w _)
 have C3:k.heap.size=A+2:=by rw[h,qhH,qhH,X]
 have M:k.heap[A+1]?=some (qI λ_=>0):=by
  rw[h];have:=qhA (w.alloc (.cells #[.slice yb d.length S,g] 91)) (qI λ_=>0);rw[qhH,<- X] at this;exact this
 have U:k.ownsRow A 101 5 (.slice (some (A+1:Nat)) 1 1) 1 (ja [λ_=>0]):=⟨by simp[ja,ZL],.inr ⟨A+1,1,_,rfl,by omega,M,by omega,by unfold qlg;omega,by simp,by simp[ja,ZL]⟩⟩;have V:zx k (A+1):=ZV M (by intro v hv;simp at hv;exact⟨_,_,hv⟩);have m4:=qhp (hI.kept z);have l7:=qhp (hP.kept z);have⟨HX,l6,HN,b8,HA,m5,m9,l8⟩:=qbB hx hp Q h X z W U;have m3:=qhp V;have C7:hi<=A:=by omega
 clear hI hP hx hp Q h X z W M U V;go_enter Tp.x137,Tryz.ntmps137;go_upto_region 2 with(fail);rw[<- HA];rw[show(w.alloc (.cells #[.slice yb d.length S,g] 91)).alloc (.cells #[.int .i64 0,.int .i64 0,.int .i64 0,.int .i64 0,.int .i64 0] 101)=k from b8.symm];clear b8;go_wp2;go_loopw [5,17] (λov iv wr=>∃j:Nat,iv=.int .i64 j/\j<=c.length/\k.gb wr none/\wr.ownsRow A 101 5 ov (yZ d (c.take j)).length (ja (yZ d (c.take j)))/\(∀b,ov.ownBlock=some b->zx wr b)/\0<(yZ d (c.take j)).length) (λ_ iv _=>(c.length - qiF iv).toNat)
 case atStart=>exact⟨0,rfl,by omega,qhD _ _,by simpa[yZ] using l8.out,λb hb=>(by simp[qix] at hb;subst hb;exact m3),by simp[yZ]⟩
 case round=>
  obtain⟨j,rfl,hj,O,hO,Q,q⟩:=hrel;obtain⟨RA,rc,rfl,D2,p9⟩:=hO.form q;have⟨c9,c3,l9⟩:=ze O hO Q;have C2:=O.size;by_cases r:j<c.length
  ·have c8:=m4.out.kept O;have b9:=l7.out.kept O;obtain⟨b1,c1,he,-,hc⟩:=c8.cell;cases he;obtain⟨VB,vo,rfl,q5,q4,q0,C⟩:=hc (by intro e;rw[e] at r;simp at r);have x0:=C j r;obtain⟨x,s⟩:∃x,c[j]?=some x:=⟨_,qhz r⟩;have⟨C0,D⟩:=HX.out x (qi9 s);rw[s] at x0;simp only[qhC] at x0;obtain⟨n,rfl⟩:∃n:Nat,x=n:=⟨x.toNat,by omega⟩;obtain⟨b2,c2,he,-,hc⟩:=b9.cell;cases he;obtain⟨YB,yo,rfl,D0,C9,C8,T⟩:=hc (by intro e;rw[e] at D;simp at D;omega);obtain⟨p,F,p0,p1,-,-⟩:=T n (by omega);have H:=l6.out p (qi9 F);have a0:=O.cl (q8 m9 (o:=0) rfl);have p7:(j:Int)<(c.length:Int):=by omega
   have C4:(n:Int)<(d.length:Int):=D;have⟨k7,l5⟩:=qE s F;clear O hO Q hc C T s F c8 b9;go_upto_region 7 with(fail);obtain⟨L,y⟩:∃L,L=yZ d (c.take j):=⟨_,rfl⟩;obtain⟨OB,N⟩:∃OB,OB=wr.heap.size:=⟨_,rfl⟩;obtain⟨B,l⟩:∃B,B=wr.alloc (.cells #[p.mn,p.mx] 26):=⟨_,rfl⟩;have g9:n<5:=by omega
   have h8:((kOf p:Nat):Int)=p.mx - p.mn+1:=by unfold kOf;omega
   have I:yZ d (c.take (j+1))=kq L n p.mn (kOf p):=by rw[q9v d c j n p k7 (by simpa using l5.out),<- y];simp
   have k5:L.length*kOf p<=900000:=by have:=HN.out (j+1) r;rw[I,vL] at this;exact this
   have q1:B.heap[OB]?=some (.cells #[p.mn,p.mx] 26 (0,0)):=by rw[l,N];exact qhA wr _
   have q2:wr.gb B none:=by rw[l];exact qhq _ _ none
   have q3:B.ownsRow A 101 5 (.slice (some RA) L.length rc) L.length (ja L):=by rw[l,y];exact c3.alloc _
   have g8:A<=B.heap.size:=by have:=q2.size;omega
   rw[<- y] at q ⊢;rw[<- N];rw[show wr.alloc (.cells #[p.mn,p.mx] 26)=B from l.symm];have⟨l4,k9,k8,d5⟩:=j8 q1 q2 q3 I;clear q1 q2 q3 I l N y x0 p0 p1 a0;go_wp2;refine qoo (yk (R:=λa u=>∃(f:Array qhu) (P:qhu),a=⟨f,[]⟩/\f.size=58/\f[8]?=some P/\(f[0]?=some (.agg #[.slice (some ⟨YB,yo,none⟩) d.length S,g])/\f[1]?=some (.slice (some ⟨VB,vo,none⟩) c.length b7)/\f[2]?=some (.pointer (some A))/\f[3]?=some (qhx)/\f[4]?=some (.slice none 0 0)/\f[6]?=some (qhx)/\f[10]?=some (qhx)/\f[13]?=some (.agg #[.int .i64 0,.int .i64 0,.int .i64 0,.int .i64 0,.int .i64 0])/\f[14]?=some (.slice (some (A+1:Nat)) 1 1)/\f[15]?=some (.slice (some ⟨VB,vo,none⟩) c.length b7)/\f[16]?=some (.int .i64 c.length)/\f[17]?=some (.int .i64 j)/\f[57]?=some (qhx))/\k.gb u none/\u.ownsRow A 101 5 P (yZ d (c.take (j+1))).length (ja (yZ d (c.take (j+1))))/\∀b,P.ownBlock=some b->zx u b) ?_) ?_;rotate_left
   ·refine xL (c':=inn cL2) (by simp only[cL2,cB1,cB0,qqp,qhC,sqA,sqB,inn]) ?_;refine qfu _ rfl B _ n OB RA rc A (kOf p) p.mn p.mx L rfl g9 rfl rfl l4 rfl rfl rfl k8 ⟨H.1,H.2.1,H.2.2⟩ h8 k5 ?_;intro f P w' b1 b2 i b4 b5 b6;refine⟨f,P,rfl,b1,b2,⟨(i 0 (by omega) (by omega)).t rfl,(i 1 (by omega) (by omega)).t rfl,(i 2 (by omega) (by omega)).t rfl,(i 3 (by omega) (by omega)).t rfl,(i 4 (by omega) (by omega)).t rfl,(i 6 (by omega) (by omega)).t rfl,(i 10 (by omega) (by omega)).t rfl,(i 13 (by omega) (by omega)).t rfl,(i 14 (by omega) (by omega)).t rfl,(i 15 (by omega) (by omega)).t rfl,(i 16 (by omega) (by omega)).t rfl,(i 17 (by omega) (by omega)).t rfl,(i 57 (by omega) (by omega)).t rfl⟩,(c9.t k9).t b4,?_,b6⟩;rw[d5,vL];exact K4 b5 g8
   ·rintro a u ⟨f,P,rfl,g7,e8,⟨e0,e1,e2,e3,e4,e6,b0,a9,a8,a7,a6,Z,Y⟩,f1,f2,f3⟩;have G:0<(yZ d (c.take (j+1))).length:=by
     rw[d5,vL];exact Nat.mul_pos q (by omega)
    obtain⟨v0,v1,v2,v3,v4,v5,v6,v7,v8,v9,B6,B5,B4,B3,A9,A8,A7,A6,A4,A3,A0,z7,z5,z4,z3,z2,z1,z0,x7,x6,x5,x4,x3,x2,x1,w9,w8,w7,w6,u9,u8,u7,u6,u5,u0,t9,t8,t7,t6,t5,t4,t3,t2,t1,s9,s8,s7,s6,rfl⟩:=q7p f g7;simp at e8 e0 e1 e2 e3 e4 e6 b0 a9 a8 a7 a6 Z Y;subst e8 e0 e1 e2 e3 e4 e6 b0 a9 a8 a7 a6 Z Y;have⟨m8,m7,m6⟩:=ze f1 f2 f3;clear f1 f2 f3;have C1:IntKind.i64.wrap ((j:Int)+1)=j+1:=qin _ (by omega);dsimp only;go_wp2;go_roundw
    case rel=>exact⟨j+1,by simp,by omega,m8,m7,m6,G⟩
    case measure=>simp[qiF];omega
  ·obtain rfl:j=c.length:=by omega
   clear O hO Q;go_wp2;go_ret;refine⟨_,rfl,m5.t c9,?_,l9⟩;have h1:=c3.out;rw[<- HA];simpa[qjs] using h1
end
section
open Go Go.RowKit Go.Co
def Tp.info3p:(Ya.info? 3).map (λi=>(i.zero,i.size,i.bytes))=some (some (.int .i64 0),1,8):=by kernel_rfl
def Tp.und29':Ya.underlying 29=some (.slice 3):=by rw[Tp.und];exact Tryz.underlying29
def Kn{w:qhr}{base n a:Nat}{v:qhu}{l:List Int}(h:w.ownsRow base 3 1 v n (l.map (qid .i64)))(s:l.length<=1000000)(o:w.heap.size<=a):qg base a w v l:=by
 have j:n=l.length:=by have:=h.1;simpa using this.symm
 subst j;rcases h.2 with⟨rfl,r⟩ | ⟨g,d,c,rfl,q,e,_,_,p,f⟩
 ·have:l=[]:=qja r;subst this;exact .nil _ _ _
 ·have k:=(qhs.1 e).1;refine⟨_,d,rfl,by omega,λ_=>⟨g,0,c,_,rfl,q,by omega,e,λi a=>?_⟩⟩;have b:(l.map (qid .i64))[i]?=some (.int .i64 (l[i]?.getD 0)):=by simp[qhz a]
  rw[<- f,qn2] at b;split at b
  ·rw[qi6];simpa using b
  ·cases b
def kf{w:qhr}{B o j:Nat}{u:qhu}(h:w.cell? ⟨B,o+j,none⟩=some u):w.cell? ((⟨B,o,none⟩:qiG).add j)=some u:=by
 have e:(⟨B,o,none⟩:qiG).add j=⟨B,o+j,none⟩:=by unfold Addr.add;split<;>simp_all
 rw[e];exact h
def q6t(w:qhr):(binOp .eql 29 (.slice none 0 0) (.slice none 0 0)).run Ya w=.ok (.bool true) w:=by kernel_rfl
def q2y(w:qhr)(B o n c:Nat):(binOp .eql 29 (.slice (some ⟨B,o,none⟩) n c) (.slice none 0 0)).run Ya w=.ok (.bool false) w:=by kernel_rfl
attribute [local simp] q6t q2y
attribute [local go_sem] q6t q2y
def Jv(G z:Nat)(v:qhu)(l:List Int)(w:qhr)(P:qg G z w v l)(M:z<=w.heap.size)(p:l≠[]\/v=.slice none 0 0)(W:l.length<=1000) :qis Ya 84 #[v] w λe f=>∃y,e=.returned y/\w.gb f none/\qg w.heap.size f.heap.size f y l:=by
 have⟨H,r,k,i,g⟩:=qjx Tp.info3p;by_cases s:l=[]
 ·subst s;have I:v=.slice none 0 0:=p.resolve_left (λh=>h rfl);subst I;go_enter Tp.x84,qq4;go_wp2;go_ret;exact⟨_,rfl,qhD _ _,.nil _ _ _⟩
 ·obtain⟨base,t,rfl,L,A⟩:=P;obtain⟨B,o,Q,fr,rfl,Y,X,D,C⟩:=A s;have d:0<l.length:=qm6.2 s;have S:=qhp (show ∀j u,(l.map (qid .i64))[j]?=some u->Q[o+j]?=some u from λj u c=>by
   rw[qjE] at c;cases hj:l[j]? with
   | none=>rw[hj] at c;cases c
   | some x=>
    rw[hj] at c;cases c;have q:=(qi3.1 hj).1;have:=C j q;rw[hj] at this;exact this)
  have U:=qhp D;clear A C D;go_enter Tp.x84,qq4;go_wp2_with (at_builtin;(refine qpi _ (by rfl) _ _ _ (by rfl) w.heap.size 3 H _ 1 8 Tp.und29' r k i g rfl (by omega) (.slice (some w.heap.size) 0 0) 0 [] (by rfl) ⟨by simp,.inr ⟨w.heap.size,0,#[],rfl,by omega,qhA w _,by omega,by unfold qlg;omega,by simp,by simp⟩⟩ ⟨B,o,none⟩ l.length t (l.map (qid .i64)) (by rfl) (by simp) (λj u c=>kf (q8 (qq U) (S j u c))) (by intro u c;simp at c;obtain⟨x,_,rfl⟩:=c;rfl) d (by unfold qlg;omega) (by omega) (by simp) (w.heap.size+1) (by simp) ?_);intro Z F V a b O N;have T:=qhp b;have R:=qhp a;clear b a);go_ret;refine⟨_,rfl,(qhq _ _ none).andThen T (λj e=>.inl ?_),Kn (n:=0+l.length) (by simpa using R.out) (by omega) (qhv _)⟩;simp[qix] at e;omega
end
section
open Go.RowKit Go.Co
def qbb{w c:qhr}{base a n:Nat}{e:qi4}{v:qhu}{b:List qhu}(h:w.ownsRow base e a v n b)(d:w.gb c none):c.ownsRow base e a v n b:=h.kept d (qlC (v.ownBlock=none))
def Yp{w:qhr}{base a n k c:Nat}{e:qi4}{b:Option qiG}{d:List qhu}(h:w.ownsRow base e a (.slice b k c) n d):k<=c:=by
 rcases h.2 with⟨h,-⟩ | ⟨g,j,i,h,-,-,f,-⟩
 ·cases h;exact qhv _
 ·cases h;exact f
structure HpI(b g Q B0 n i:Nat)(ps:List Par)(lim:Int)(pv:qhu)(ord l:List Int)(ov:qhu)(w0 w wr:qhr):Prop where
 sub:l.Sublist (ord.take i)
 tall:qS ps l<=lim
 t0:0<=qS ps l
 own:wr.ownsRow B0 3 1 ov l.length (l.map (qid .i64))
 tin:zf wr b (g+i)
 gr:w.grownBy wr (some b)
 gr0:w0.grownBy wr (some b)
 ints:∀j,ov.ownBlock=some j->zx wr j
end
section
open Go.RowKit
def KD(x y:Int):Int:=if x<y then -1 else if y<x then 1 else 0
def je:List Int->List Int->Int
 | [],[]=>0
 | [],_::_=>-1
 | _::_,[]=>1
 | x::a,y::b=>if KD x y≠0 then KD x y else je a b
def qeb(x y:Int)(w:qhr):qis Ya 157 #[x,y] w λe d=>e=.returned (.int .i64 (KD x y))/\w=d:=by
 unfold KD;by_cases c:x<y
 ·rw[if_pos c];go_enter Tp.x157,qqF;go_wp2_with (go_at_call 198;refine(QO _ _).mono ?_;rintro e a ⟨rfl,rfl⟩);go_ret;exact⟨rfl,rfl⟩
 ·rw[if_neg c];by_cases b:y<x
  ·rw[if_pos b];go_enter Tp.x157,qqF;go_wp2_with (go_at_call 198;refine(QO _ _).mono ?_;rintro e a ⟨rfl,rfl⟩);go_ret;exact⟨rfl,rfl⟩
  ·rw[if_neg b];go_enter Tp.x157,qqF;go_wp2_with (go_at_call 198;refine(QO _ _).mono ?_;rintro e a ⟨rfl,rfl⟩);go_ret;exact⟨rfl,rfl⟩
def q1D(a b:List Int)(k:Nat)(x y:Int)(d:a[k]?=some x)(c:b[k]?=some y):je (a.drop k) (b.drop k)=if KD x y≠0 then KD x y else je (a.drop (k+1)) (b.drop (k+1)):=by
 have⟨f,h⟩:=qi3.1 d;have⟨e,g⟩:=qi3.1 c;rw[qkd f,qkd e,h,g];rfl
def JU(P Y O X:Nat)(D C:qhu)(a b:List Int)(w:qhr)(H:qg P Y w D a)(G:qg O X w C b) :qis Ya 122 #[D,C] w λe N=>e=.returned (.int .i64 (je a b))/\w=N:=by
 obtain⟨ba,ca,rfl,T,L⟩:=H.cell;obtain⟨bb,cb,rfl,S,I⟩:=G.cell;have⟨H1,H2⟩:=qE L I;clear L I H G;go_enter Tp.x122,Tryz.ntmps122;go_wp2;go_loopw [11] (λr wr=>∃k:Nat,r=.int .i64 k/\k<=a.length/\k<=b.length/\je a b=je (a.drop k) (b.drop k)/\w=wr) (λr _=>(a.length - qiF r).toNat)
 case atStart=>exact⟨0,rfl,by omega,by omega,rfl,rfl⟩
 case round=>
  obtain⟨k,rfl,hk,U,F,rfl⟩:=hrel;have p:=qhp F;clear F;by_cases d:k<a.length
  ·obtain⟨x,v⟩:∃x,a[k]?=some x:=⟨_,qhz d⟩;obtain⟨A1,o1,rfl,b0,a9,a8,l⟩:=H1.out (by intro e;rw[e] at d;simp at d);have B:=l k d;rw[v] at B;simp only[qhC] at B;have W:(k:Int)<(a.length:Int):=by omega
   have E1:=qhp v;clear l v;by_cases c:k<b.length
   ·obtain⟨y,u⟩:∃y,b[k]?=some y:=⟨_,qhz c⟩;obtain⟨B1,o2,rfl,a7,a6,Z,j⟩:=H2.out (by intro e;rw[e] at c;simp at c);have A:=j k c;rw[u] at A;simp only[qhC] at A;have V:(k:Int)<(b.length:Int):=by omega
    have i:=q1D a b k x y E1.out u;have h:=qhp i;have g:=qeb x y w;clear j u i;generalize KD x y=z at g h;have o:=qhp g;clear g;by_cases q:z=0
    ·subst q;go_wp2_with (go_at_call 157;refine(o.out).mono ?_;rintro e M ⟨rfl,rfl⟩);go_roundw
     case rel=>exact⟨k+1,by simp,by omega,by omega,by rw[p.out,h.out];simp,by first | trivial | rfl⟩
     case measure=>simp[qiF];omega
    ·have Q:(z != 0)=true:=by simpa using q
     have HZ:=qhp q;clear q;go_wp2_with (go_at_call 157;refine(o.out).mono ?_;rintro e M ⟨rfl,rfl⟩);go_ret;exact⟨by rw[p.out,h.out,if_pos HZ.out];rfl,rfl⟩
   ·have R:(b.length:Int)<=(k:Int):=by omega
    have f:je a b=1:=by
     rw[p.out,qkr (show b.length<=k by omega),qkd d];rfl
    have n:=qhp f;clear f;go_wp2;go_ret;exact⟨by rw[n.out];rfl,rfl⟩
  ·obtain rfl:k=a.length:=by omega
   by_cases t:a.length<b.length
   ·have s:(a.length:Int)<(b.length:Int):=by omega
    have f:je a b=-1:=by
     rw[p.out,qkr (qhv _),qkd t];rfl
    have n:=qhp f;clear f;go_wp2;go_ret;exact⟨by rw[n.out];rfl,rfl⟩
   ·have s:¬ (a.length:Int)<(b.length:Int):=by omega
    have f:je a b=0:=by
     rw[p.out,qkr (qhv _),qkr (show b.length<=a.length by omega)];rfl
    have n:=qhp f;clear f;go_wp2;go_ret;exact⟨by rw[n.out];rfl,rfl⟩
def JR(j l i k:Nat)(d c:qhu)(a b:List Int)(w:qhr)(h:qg j l w d a)(g:qg i k w c b) :qis Ya 99 #[d,c] w λe n=>e=.returned (.bool (decide (je a b<0)))/\w=n:=by
 have f:=JU j l i k d c a b w h g;obtain⟨y,v,rfl,p,r⟩:=h.cell;obtain⟨x,u,rfl,o,q⟩:=g.cell;clear r q h g;generalize je a b=z at f ⊢;have s:=qhp f;clear f;go_enter Tp.x99,Tryz.ntmps99;go_wp2_with (go_at_call 122;refine(s).mono ?_;rintro e t ⟨rfl,rfl⟩);go_ret;exact⟨rfl,rfl⟩
def Z6(a b:List Int):Bool:=decide (b.length<a.length) || (decide (a.length=b.length) && decide (je a b<0))
def q1s(s u r t:Nat)(i h:qhu)(a b:List Int)(w:qhr)(o:qg s u w i a)(n:qg r t w h b) :qis Ya 98 #[i,h] w λe v=>e=.returned (.bool (Z6 a b))/\w=v:=by
 have l:=JR s u r t i h a b w o n;obtain⟨G,D,rfl,y,B⟩:=o.cell;obtain⟨F,C,rfl,x,A⟩:=n.cell;unfold Z6;generalize decide (je a b<0)=z at l ⊢;have p:=qhp l;clear l B A o n;by_cases d:b.length<a.length
 ·have j:(b.length:Int)<(a.length:Int):=by omega
  have f:(decide (b.length<a.length) || (decide (a.length=b.length) && z))=true:=by simp[d]
  have g:=qhp f;clear f d;go_enter Tp.x98,qrh;go_wp2_with (go_at_call 99;refine(p).mono ?_;rintro e q ⟨rfl,rfl⟩);go_ret;exact⟨by rw[g];rfl,rfl⟩
 ·have j:¬ (b.length:Int)<(a.length:Int):=by omega
  by_cases c:a.length=b.length
  ·have k:((a.length:Int) == (b.length:Int))=true:=by simp[c]
   have f:(decide (b.length<a.length) || (decide (a.length=b.length) && z))=z:=by simp[c]
   have g:=qhp f;clear f d c;go_enter Tp.x98,qrh;go_wp2_with (go_at_call 99;refine(p).mono ?_;rintro e q ⟨rfl,rfl⟩);go_ret;exact⟨by rw[g];rfl,rfl⟩
  ·have k:((a.length:Int) == (b.length:Int))=false:=by rw[beq_eq_false_iff_ne];omega
   have f:(decide (b.length<a.length) || (decide (a.length=b.length) && z))=false:=by simp[c];omega
   have g:=qhp f;clear f d c;go_enter Tp.x98,qrh;go_wp2_with (go_at_call 99;refine(p).mono ?_;rintro e q ⟨rfl,rfl⟩);go_ret;exact⟨by rw[g];rfl,rfl⟩
def qO(n:Nat):List Int:=(qil n).map λ(i:Nat)=>(i:Int)
def z6(n:Nat):(qO n).length=n:=by simp[qO]
def q1e(n:Nat):qO (n+1)=qO n++[(n:Int)]:=by simp[qO,qlo]
def vh(q:Option qiG)(n p:Nat)(f:Int)(w:qhr)(X:n<=1000) :qis Ya 100 #[.agg #[.slice q n p,f]] w λe r=>∃v,e=.returned v/\w.gb r none/\qg w.heap.size r.heap.size r v (qO n):=by
 have⟨P,z,y,x,u⟩:=qjx Tp.info3p;have⟨Y,d,G,g,c,h⟩:=zo w (.cells #[.slice q n p,f] 91);have W:d.cell? Y=some (.slice q n p):=q8 h rfl;have S:Y<=d.heap.size:=by have:=c.size;omega
 have⟨A,T,i⟩:=ze g G c;clear g G c h;go_enter Tp.x100,Tryz.ntmps100;go_upto_region 1 with(fail);rw[<- T,<- A];go_wp2;go_loopw [3,9] (λL s wr=>∃k:Nat,s=.int .i64 k/\k<=n/\d.gb wr none/\wr.ownsRow d.heap.size 3 1 L k ((qO k).map (qid .i64))) (λ_ s _=>(n - qiF s).toNat)
 case atStart=>exact⟨0,rfl,by omega,qhD _ _,qjF _ _ _ _⟩
 case round=>
  obtain⟨k,rfl,Z,o,l⟩:=hrel;obtain⟨O,M,N,rfl⟩:=zB l;have⟨I,C⟩:=qE o l;have Q:=o.size;by_cases R:k<n
  ·have F:(k:Int)<(n:Int):=by omega
   clear o l;go_wp2_with (at_builtin;(refine wpList_append_own _ rfl _ _ 29 rfl d.heap.size 3 P _ 1 8 Tp.und29' z y x u rfl (by decide) (.slice O M N) k _ rfl (C.alloc _) ⟨wr.heap.size,0,none⟩ 1 1 [.int .i64 k] rfl rfl (qje (cs:=#[k]) (t:=3) (fr:=(0,0)) (qhA wr _)) (by simp[qjD]) (by unfold qlg;omega) (by omega) (by simp;omega) ?_);intro V U a b _;obtain⟨g',H,rfl⟩:=qn6 a;have B:=qhp a;have D:=qhp b;clear a b);go_roundw
   case rel=>
    refine⟨k+1,by simp,by omega,(I.t (qhq _ _ none)).andThen D (λj e=>.inl (C.lt j e).1),?_⟩;rw[q1e,qk1];exact B
   case measure=>simp[qiF];omega
  ·obtain rfl:k=n:=by omega
   clear o l;go_wp2;go_ret;exact⟨_,rfl,i.t I,(qg.own C (by rw[z6];omega)).mono i.size (qhv _)⟩
def qh9(L:Nat)(s:Bool)(d c:qhu)(a x:List Int)(w b:qhr):Prop :=
 w.gb b (some L)/\b.heap[L]?=some (.cells #[.func (.func 98) #[] #[],if s=true/\Z6 x a=false then d else c,.bool true] 108 (0,0))
def qag(L:Nat)(s:Bool)(k g:qhu)(a x:List Int)(w:qhr)(c:w.heap[L]?=some (.cells #[.func (.func 98) #[] #[],k,.bool s] 108 (0,0)))(j:qg 0 w.heap.size w k a)(i:qg 0 w.heap.size w g x) :qis Ya 103 #[.pointer (some L),g] w λe q=>e=.returned (.tuple #[])/\qh9 L s k g a x w q:=by
 obtain⟨z,y,rfl,-,-⟩:=j.cell;obtain⟨f,d,rfl,-,-⟩:=i.cell;have v:w.cell? L=some (.func (.func 98) #[] #[]):=q8 c rfl;have u:w.cell? ⟨L,1,none⟩=some (.slice z a.length y):=q8 c rfl;have r:w.cell? ⟨L,2,none⟩=some (.bool s):=q8 c rfl;have B:w.frozen? ⟨L,1,none⟩=false:=qn c;have A:w.frozen? ⟨L,2,none⟩=false:=qn c;have⟨l,o,n⟩:=ze c j i;have C:=qhp (qi8 v (qi8 u r));clear c j i;go_enter Tp.x103,Tryz.ntmps103;cases s with
 | false=>
  go_wp2_with (fail);go_quiet (fail);go_wp2;go_end0;refine⟨rfl,((qk _ _ _).t (qh _ _ _ _)).t (qh _ _ _ _),?_⟩;rw[if_neg (by simp ),qi (show((w.drewN nq).setCell ⟨L,1,none⟩ (.slice f x.length d)).heap[L]?=some (.cells #[.func (.func 98) #[] #[],.slice f x.length d,.bool false] 108 (0,0)) by rw[qi (show(w.drewN nq).heap[L]?=_ from l)];rfl)];rfl
 | true=>
  cases hl:Z6 x a with
  | true=>
   have b:=qhp hl;clear hl;go_wp2_with (fail);go_quiet (first | (go_at_call 98;refine qk0 ((q1s 0 w.heap.size 0 w.heap.size _ _ x a _ (n.kept (qk _ _ none)) (o.kept (qk _ _ none))).mono (λe p h=>⟨by rw[h.1,b],h.2.symm⟩))));go_wp2;go_end0;refine⟨rfl,((qk _ _ _).t (qh _ _ _ _)).t (qh _ _ _ _),?_⟩;rw[if_neg (by simp[b.out]),qi (show((w.drewN nq).setCell ⟨L,1,none⟩ (.slice f x.length d)).heap[L]?=some (.cells #[.func (.func 98) #[] #[],.slice f x.length d,.bool true] 108 (0,0)) by rw[qi (show(w.drewN nq).heap[L]?=_ from l)];rfl)];rfl
  | false=>
   have b:=qhp hl;clear hl;go_wp2_with (fail);go_quiet (first | (go_at_call 98;refine qk0 ((q1s 0 w.heap.size 0 w.heap.size _ _ x a _ (n.kept (qk _ _ none)) (o.kept (qk _ _ none))).mono (λe p h=>⟨by rw[h.1,b],h.2.symm⟩))));go_wp2;go_end0;refine⟨rfl,(qk _ _ _),?_⟩;rw[if_pos ⟨rfl,b⟩];exact l
end
section
open Go Go.RowKit
def A5(l:List Int):qhu:=.agg (l.map (qid .i64)).toArray
def Tp.und118:Ya.underlying 118=some (.array 5 3):=by rw[Tp.und];exact Tryz.underlying118
def Tp.und120:Ya.underlying 120=some (.map 118 3):=by rw[Tp.und];exact Tryz.underlying120
def Tp.und3q:Ya.underlying 3=some (.int .i64):=by rw[Tp.und];exact qmD
def qet(l:List Int)(i:Nat)(x:Int)(h:l[i]?=some x)(w:qhr):(part 3 (l.map (qid .i64)).toArray i).run Ya w=.ok (.int .i64 x) w :=
 run_part_plain w (by kernel_rfl) (by simp[h])
def qcg(x y:Int)(s t:List Int):decide (x::s=y::t)=((x == y) && decide (s=t)):=by
 by_cases e:x=y<;>simp[e]
def q4B(a b:List Int)(d:a.length=b.length)(w:qhr):∀(m k:Nat),k+m=a.length->(Op.eqItems 9999 3 1 (a.map (qid .i64)).toArray (b.map (qid .i64)).toArray (qmG k m)).run Ya w=.ok (decide (a.drop k=b.drop k)) w
 | 0,k,h=>by
  rw[qkr (by omega),qkr (by omega)];simp[Op.eqItems]
 | m+1,k,h=>by
  have c:=q4B a b d w m (k+1) (by omega);have g:a[k]?=some a[k]:=qhz (by omega);have f:b[k]?=some b[k]:=qhz (by omega);rw[List.range'_succ];simp only[Op.eqItems,Nat.mul_one,qjo,qet a k _ g,qet b k _ f,qjl,run_equalIn_int w 9998 3 .i64 .i64 _ _ Tp.und3q];have e:decide (a.drop k=b.drop k)=((a[k] == b[k]) && decide (a.drop (k+1)=b.drop (k+1))):=by
   rw[qkd (show k<a.length by omega),qkd (show k<b.length by omega)];exact qcg _ _ _ _
  rw[e];cases(a[k] == b[k])
  ·simp
  ·simpa using c
def eqA5(a b:List Int)(f:a.length=5)(e:b.length=5)(w:qhr):(Op.equalIn 10000 118 (A5 a) (A5 b)).run Ya w=.ok (decide (a=b)) w:=by
 obtain⟨i,c⟩:∃i,Ya.info? 3=some i:=⟨_,(qjx Tp.info3p).choose_spec.1⟩;have d:Ya.cellsOf 3=1:=by kernel_rfl
 unfold A5;rw[show(10000:Nat)=9999+1 from rfl,run_equalIn_array w 9999 _ _ Tp.und118 c,d,List.range_eq_range',q4B a b (by omega) w 5 0 (by omega)];rfl
def qbF(a:List Int)(o:a.length=5)(w:qhr):∀(b:List qlj) (K:List (List Int)) (i:Nat),b.map (·.key)=K.map A5->(∀k∈K,k.length=5)->(∀e∈b,∃v:Int,e.val=.int .i64 v) ->∃r,(qm9 118 (A5 a) b i).run Ya w=.ok r w/\(a∈K->∃j v,r=some (j,.int .i64 v))/\(a∉K->r=none)
 | [],K,i,h,_,_=>by
  have:K=[]:=by simpa using h.symm
  subst this;exact⟨none,by simp[qm9],by simp,by simp⟩
 | e::b,[],i,h,_,_=>by simp at h
 | e::b,k::K,i,h,p,l=>by
  simp only[qll,qkG] at h;have q:=eqA5 a k o (p k (by simp)) w;have n:(Op.equal 118 (A5 a) e.key).run Ya w=.ok (decide (a=k)) w:=by rw[h.1];exact q
  by_cases f:a=k
  ·subst f;have⟨v,g⟩:=l e (by simp);refine⟨some (i,e.val),?_,λ_=>⟨i,v,by rw[g]⟩,λd=>absurd (by simp) d⟩;simp only[qm9,qjo,n,qjl,decide_true,if_true,qmo]
  ·have⟨r,u,t,s⟩:=qbF a o w b K (i+1) h.2 (λx c=>p x (by simp[c])) (λx c=>l x (by simp[c]));refine⟨r,?_,λhm=>t ((qjr.1 hm).resolve_left f),λd=>s λhm=>d (by simp[hm])⟩;simp only[qm9,qjo,n,qjl];simpa[f] using u
def qh1(a b:Array qhu)(v:qhu)(n:Nat)(c:List qlj)(w:qhr):(qmt 118 (.agg a) (⟨.agg b,v,n⟩::c)).run Ya w=(qm9 118 (.agg a) (⟨.agg b,v,n⟩::c)).run Ya w:=by kernel_rfl
def q4v(a:List Int)(g:a.length=5)(w:qhr)(b:List qlj)(K:List (List Int))(h:b.map (·.key)=K.map A5)(i:∀k∈K,k.length=5)(d:∀e∈b,∃v:Int,e.val=.int .i64 v) :∃r,(qmt 118 (A5 a) b).run Ya w=.ok r w/\(a∈K->∃j v,r=some (j,.int .i64 v))/\(a∉K->r=none):=by
 cases b with
 | nil=>
  have:K=[]:=by simpa using h.symm
  subst this;exact⟨none,by unfold A5;kernel_rfl,by simp,by simp⟩
 | cons e b=>
  obtain⟨k,c,rfl⟩:∃k c,K=k::c:=by
   cases K with
   | nil=>simp at h
   | cons k c=>exact⟨k,c,rfl⟩
  have⟨r,n,l⟩:=qbF a g w (e::b) (k::c) 0 h i d;refine⟨r,?_,l⟩;obtain⟨p,o,q⟩:=e;have f:p=A5 k:=by simpa using(List.cons.inj h).1
  subst f;exact(qh1 _ _ o q b w).t n
def q6z(b:Bool)(a:List Int)(h:a.length=5)(w:qhr):(qlF b 10000 118 (A5 a)).run Ya w=.ok () w:=by
 obtain⟨g,f,e,d,c,rfl⟩:∃g f e d c,a=[g,f,e,d,c]:=by
  rcases a with _ | ⟨g,_ | ⟨f,_ | ⟨e,_ | ⟨d,_ | ⟨c,_ | ⟨i,t⟩⟩⟩⟩⟩⟩<;>simp at h;exact⟨g,f,e,d,c,rfl⟩
 show(qlF b 10000 118 (.agg #[.int .i64 g,.int .i64 f,.int .i64 e,.int .i64 d,.int .i64 c])).run Ya w=.ok () w;kernel_rfl
def zV(w:qhr)(r:Nat)(K:List (List Int)):Prop :=
 ∃b a,w.heap[r]?=some (.map b a)/\b.toList.map (·.key)=K.map A5/\(∀k∈K,k.length=5)/\∀e∈b.toList,∃v:Int,e.val=.int .i64 v
def zV.look{w:qhr}{r:Nat}{K:List (List Int)}(h:zV w r K)(a:List Int)(b:a.length=5):∃v:Int,(qnx 120 (.map (some r)) (A5 a) true).run Ya w=.ok (.tuple #[v,.bool (decide (a∈K))]) w:=by
 obtain⟨o,c,e,n,l,k⟩:=h;have⟨q,d,g,f⟩:=q4v a b w o.toList K n l k;have i:∀w,(qmy 3).run Ya w=.ok (.int .i64 0) w:=λw=>by kernel_rfl
 by_cases hm:a∈K
 ·obtain⟨j,v,rfl⟩:=g hm;refine⟨v,?_⟩;simp[qnx,qjo,run_underlying Tp.und120,getObj,qjd,e,qnr,q6z _ a b,d,hm]
 ·obtain rfl:=f hm;refine⟨0,?_⟩;simp[qnx,qjo,run_underlying Tp.und120,getObj,qjd,e,qnr,q6z _ a b,d,hm,i]
def zV.add{w:qhr}{r:Nat}{K:List (List Int)}(h:zV w r K)(a:List Int)(d:a.length=5)(u:a∉K)(v:Int):∃o,(∀m t,o≠.cells m t (0,0))/\(qjw 120 (.map (some r)) (A5 a) (.int .i64 v)).run Ya w=.ok () (w.putObj r o)/\∀c,c.heap[r]?=some o->zV c r (K++[a]):=by
 obtain⟨l,b,y,j,i,g⟩:=h;have⟨q,p,z,n⟩:=q4v a d w l.toList K j i g;obtain rfl:=n u;refine⟨.map (l.push ⟨A5 a,.int .i64 v,b⟩) (b+1),(λm t e=>(by cases e)),?_,λc s=>⟨_,_,s,by simp[j],λk x=>?_,λe f=>?_⟩⟩
 ·simp[qjw,qjo,run_underlying Tp.und120,getObj,setObj,qjd,y,qnr,q6z _ a d,p,World.putObj]
 ·rcases qku.1 x with h | h
  ·exact i k h
  ·rw[ql4.1 h];exact d
 ·rw[Array.toList_push] at f;rcases qku.1 f with h | h
  ·exact g e h
  ·rw[ql4.1 h];exact⟨v,rfl⟩
def zV.nil{w:qhr}{r:Nat}(h:w.heap[r]?=some (.map #[] 0)):zV w r []:=⟨_,_,h,rfl,by simp,by simp⟩
def zV.kept{w w':qhr}{r:Nat}{K:List (List Int)}(h:zV w r K)(e:w'.heap[r]?=w.heap[r]?):zV w' r K:=by
 obtain⟨g,a,f,d⟩:=h;exact⟨g,a,e.t f,d⟩
end
section
open Go.RowKit
def J4(n1:Nat)(G:Nat->Prop)(W:qhr)(v:qhu)(l:List Int):Prop:=qg n1 W.heap.size W v l/\∀B o n c,v=.slice (some ⟨B,o,none⟩) n c->l≠[]->¬ G B
def J4.bod{n1:Nat}{G G':Nat->Prop}{A C:qhr}{v:qhu}{l:List Int}(h:J4 n1 G A v l)(d:Bod n1 n1 G G' A C):J4 n1 G' C v l:=by
 obtain⟨⟨base,i,rfl,u,j⟩,k⟩:=h;refine⟨⟨base,i,rfl,u,λa=>?_⟩,λB o n c e a w=>?_⟩
 ·have⟨B,o,s,p,b,g,f,r,q⟩:=j a;exact⟨B,o,s,p,b,g,qi0 f d.size,(d.keep B f (.inl g) (k B o _ _ (by rw[b]) a)).t r,q⟩
 ·have⟨y,x,s,p,b,g,f,r,q⟩:=j a;rw[b] at e;cases e;exact(d.fp _ w).elim (k _ _ _ _ (by rw[b]) a) (by omega)
def jV{n1 B:Nat}{G:Nat->Prop}{A C:qhr}(a:A.gb C none):Bod n1 B G G A C:=⟨a.tape,a.size,λk b _ _=>a.block k b (by simp),λ_ h=>.inl h⟩
structure JZ(n1 E Lv Gp:Nat)(lb:Option qiG)(lc:Nat)(ws:List Int)(fE:qj8)(jD:Array qhu)(G:Nat->Prop)(W:qhr):Prop where
 en:W.heap[E]?=some (.cells #[.func (.func fE) #[] jD] 51 (0,0))
 ls:W.heap[Lv]?=some (.cells #[.slice lb ws.length lc] 29 (0,0))
 li:J4 n1 G W (.slice lb ws.length lc) ws
 gr:W.heap[Gp]?=some (.cells #[.func (.func 136) #[] #[.pointer (some E),.pointer (some Lv),.pointer (some Gp)]] 151 (0,0))
 ge:n1<=E/\n1<=Lv/\n1<=Gp
 nf:¬ G E/\¬ G Lv/\¬ G Gp
section
variable{n1 E Lv Gp:Nat}{lb:Option qiG}{lc:Nat}{ws:List Int}{fE:qj8}{jD:Array qhu}{G G':Nat->Prop}{A C:qhr}
def JZ.bod(h:JZ n1 E Lv Gp lb lc ws fE jD G A)(a:Bod n1 n1 G G' A C):JZ n1 E Lv Gp lb lc ws fE jD G' C:=by
 have d:=(qhs.1 h.en).1;have c:=(qhs.1 h.ls).1;have b:=(qhs.1 h.gr).1;exact⟨(a.keep E d (.inl h.ge.1) h.nf.1).t h.en,(a.keep Lv c (.inl h.ge.2.1) h.nf.2.1).t h.ls,h.li.bod a,(a.keep Gp b (.inl h.ge.2.2) h.nf.2.2).t h.gr,h.ge,
  λe=>(a.fp _ e).elim h.nf.1 (by omega),λe=>(a.fp _ e).elim h.nf.2.1 (by omega),λe=>(a.fp _ e).elim h.nf.2.2 (by omega)⟩
end
def qcC(ws:List Int)(done L:List (List Int)):Prop:=∃t,jZ ws 0=done++(L++t)
structure Cb(n1:Nat)(ws:List Int)(fE:qj8)(jD:Array qhu)(I:List (List Int)->(Nat->Prop)->qhr->Prop):Prop where
 hI:∀s G A C,I s G A->A.grownBy C none->I s G C
 hlt:∀s G A,I s G A->∀k,G k->k<A.heap.size
 en:∀a w,(callFunc fE a).run Ya w=.ok (.enter fE a) w
 cb:∀done G W v c,I done G W->qg 0 W.heap.size W v c->(c≠[]\/v=.slice none 0 0)->c.Sublist ws->qcC ws done [c] ->
  qis Ya fE (#[v]++jD) W λe W'=>e=.returned (.bool false)/\∃G',I (done++[c]) G' W'/\Bod n1 n1 G G' W W'
def GrA(n1:Nat)(I:List (List Int)->(Nat->Prop)->qhr->Prop)(L:List (List Int))(done:List (List Int))(G:Nat->Prop)(W:qhr)(e:Ending)(a:qhr):Prop :=
 e=.returned (.bool false)/\∃G',I (done++L) G' a/\Bod n1 n1 G G' W a
def qgG{n1 E Lv Gp:Nat}{lb:Option qiG}{lc:Nat}{ws:List Int}{fE:qj8}{jD:Array qhu}{I:List (List Int)->(Nat->Prop)->qhr->Prop}(p:Cb n1 ws fE jD I){a:List Int}{b:Nat}{i:Option qiG}{g:Nat}{W:qhr}{G:Nat->Prop}{done:List (List Int)}(c:a.Sublist (ws.take b))(n:JZ n1 E Lv Gp lb lc ws fE jD G W)(o:J4 n1 G W (.slice i a.length g) a)(f:a≠[]\/qjc i a.length g=.slice none 0 0)(d:qcC ws done (zS ws 0 a b))(h:I done G W) :qis Ya 136 #[.slice i a.length g,b,.int .i64 (0:Nat),.pointer (some E),.pointer (some Lv),.pointer (some Gp)] W (GrA n1 I (zS ws 0 a b) done G W):=by
 have u:W.cell? E=some (.func (.func fE) #[] jD):=q8 n.en rfl;have q:=p.en;have l:=p.cb done G W _ a h (o.1.mono (qiu _) (qhv _)) f (c.trans (List.take_sublist _ _)) d;have r:=qhp l;clear l n o h f d;go_enter Tp.x136,Tryz.ntmps136;go_wp2_with (refine(r).mono ?_;rintro e t ⟨rfl,s,k,j⟩);go_ret;exact⟨rfl,s,k,j⟩
def Qt(w:qhr)(a b:Nat)(e:qi4):a<=qm1 w a b e:=by
 unfold qm1;simp only[Question.cut];omega
def q1h{w:qhr}{l:List Int}{zs:Array qhu}(d:l.length<=1000000)(a:Nat) :qg w.heap.size (w.drew.alloc (.cells ((l.map (qid .i64)).toArray++zs) 3)).heap.size (w.drew.alloc (.cells ((l.map (qid .i64)).toArray++zs) 3)) (.slice (some w.heap.size) l.length a) l:=by
 have c:(w.drew.alloc (.cells ((l.map (qid .i64)).toArray++zs) 3)).heap[w.heap.size]?=some (.cells ((l.map (qid .i64)).toArray++zs) 3 (0,0)):=qhA w.drew _;refine⟨_,a,rfl,by omega,λ_=>⟨w.heap.size,0,_,_,rfl,qhv _,?_,c,λi b=>?_⟩⟩
 ·exact(qhs.1 c).1
 ·rw[qi6,qnt (by simpa using b)];simp[qhz b]
def q8p{w:qhr}{z:Option qiG}{M B:Nat}{a:List Int}{x:Int}(y:qi4)(I:qg 0 w.heap.size w (.slice z a.length M) a)(N:w.cell? B=some (.int .i64 x))(S:a.length<=1000) :∃g d u,(ql7 #[29,29] y #[.slice z a.length a.length,.slice (some B) 1 1]).run Ya w=.ok (.slice (some ⟨g,0,none⟩) (a.length+1) d) u/\w.heap.size<=g/\w.gb u none /\qg w.heap.size u.heap.size u (.slice (some ⟨g,0,none⟩) (a.length+1) d) (a++[x])/\a.length+1<=d:=by
 have⟨H,s,r,h,q⟩:=qjx Tp.info3p;have f:∀j v,([qid .i64 x]:List qhu)[j]?=some v->w.cell? ((⟨B,0,none⟩:qiG).add j)=some v:=λj v k=>by
  have:j=0:=by have:=(qi3.1 k).1;simp at this;omega
  subst this;simp at k;subst k;simpa[Addr.add] using N
 have p:(a++[x]).length=a.length+1:=by simp
 cases z with
 | none=>
  have R:a=[]:=by
   refine qj6 λD=>?_;obtain⟨base,d,e,_,n⟩:=I;cases e;have⟨B,o,U,T,F,_⟩:=n D;cases F
  subst R;have n:=run_append_nil (P:=Ya) w 29 y 3 H _ Tp.und29' s r ⟨B,0,none⟩ 1 1 [qid .i64 x] (by rw[h];rfl) f (by omega) (by omega) (by rw[q];omega);have:=q1h (w:=w) (l:=[x]) (zs:=qki (qid .i64 0).cells (qm1 w 1 0 3 - 1)) (by simp) (qm1 w 1 0 3);exact⟨_,_,_,n,qhv _,(qe w none).t (qhq _ _ none),this,Qt _ _ _ _⟩
 | some b=>
  have i:∀j v,(a.map (qid .i64))[j]?=some v->w.cell? (b.add j)=some v:=λj v k=>by
   have c:j<a.length:=by simpa using(qi3.1 k).1
   have⟨base,d,e,_,O⟩:=I.cell;cases e;have⟨V,o,F,_,_,_,Q⟩:=O (by intro e;rw[e] at c;simp at c);cases F;have L:=Q j c;rw[qjE,qhz c] at k;rw[qhz c] at L;cases k;exact kf L
  have n:=run_append_grow (P:=Ya) w 29 y 3 H _ Tp.und29' s r b a.length a.length (a.map (qid .i64)) (by rw[h];simp) i ⟨B,0,none⟩ 1 1 [qid .i64 x] (by rw[h];rfl) f (by omega) (by omega) (growslice_fits (by omega) (by rw[q];omega));have:=q1h (w:=w) (l:=a++[x]) (zs:=qki (qid .i64 0).cells (qm1 w (a.length+1) a.length 3 - (a.length+1))) (by simp;omega) (qm1 w (a.length+1) a.length 3);have e:(a.map (qid .i64)).toArray++[qid .i64 x].toArray=((a++[x]).map (qid .i64)).toArray:=by simp
  rw[e] at n;rw[p] at this;exact⟨_,_,_,n,qhv _,(qe w none).t (qhq _ _ none),this,Qt _ _ _ _⟩
def q5s{d:Array qjn}{o:qjn}{a:Act}{w:qhr}{K:Act->qhr->Prop}{Q:Exit->Act->qhr->Prop}{E:Prop}(f:qip o (qjt d a.tmps)=true)(s x:qiy)(e:o.op=.call { callee:=.builtin .append,args:=#[s,x],argTypes:=#[29,29] }){nb:Option qiG}{nc B:Nat}{now:List Int}{y:Int}(hs:a.eval s=.slice nb now.length now.length)(hx:a.eval x=.slice (some B) 1 1)(hN:qg 0 w.heap.size w (.slice nb now.length nc) now)(hy:w.cell? B=some (.int .i64 y))(hl:now.length<=1000)(h:∀g b c,w.heap.size<=g->w.gb c none->qg w.heap.size c.heap.size c (.slice (some ⟨g,0,none⟩) (now.length+1) b) (now++[y])->now.length+1<=b->K (a.put o.dst (.slice (some ⟨g,0,none⟩) (now.length+1) b)) c) :if qip o (qjt d a.tmps)=true then Oper.wp Ya o a w K Q else E:=by
 rw[if_pos f];have⟨g,b,c,i,n,l,k,j⟩:=q8p o.type hN hy hl;unfold Oper.wp qkA;simp only[e,resolve,invoke,builtin,qjo,qmo,qjl,qmc,qll,qmq,hs,hx,i];exact h g b c n l k j
def qgF{n1 E Lv Gp:Nat}{lb:Option qiG}{lc:Nat}{ws:List Int}{fE:qj8}{jD:Array qhu}{I:List (List Int)->(Nat->Prop)->qhr->Prop}(cb:Cb n1 ws fE jD I)(k0:ws.length<=1000)(m:Nat)(ih:∀(b:List Int) (a:Nat) (p:Option qiG) (nc:Nat) (W:qhr) (G:Nat->Prop) (done:List (List Int)),m+b.length<=ws.length->a<=1001->b.Sublist (ws.take a)->JZ n1 E Lv Gp lb lc ws fE jD G W->J4 n1 G W (.slice p b.length nc) b->(b≠[]\/qjc p b.length nc=.slice none 0 0)->b.length<=nc->qcC ws done (zS ws m b a)->I done G W ->qis Ya 136 #[.slice p b.length nc,a,m,.pointer (some E),.pointer (some Lv),.pointer (some Gp)] W (GrA n1 I (zS ws m b a) done G W))(b:List Int)(a:Nat)(p:Option qiG)(nc:Nat)(W:qhr)(G:Nat->Prop)(done:List (List Int))(k9:m+1+b.length<=ws.length)(a8:a<=1001)(l:b.Sublist (ws.take a))(hS:JZ n1 E Lv Gp lb lc ws fE jD G W)(hN:J4 n1 G W (.slice p b.length nc) b)(a7:b≠[]\/qjc p b.length nc=.slice none 0 0)(k8:b.length<=nc)(z:qcC ws done (zS ws (m+1) b a))(h:I done G W) :qis Ya 136 #[.slice p b.length nc,a,.int .i64 ((m:Int)+1),.pointer (some E),.pointer (some Lv),.pointer (some Gp)] W (GrA n1 I (zS ws (m+1) b a) done G W):=by
 have l4:((m:Int)+1 == 0)=false:=by
  rw[beq_eq_false_iff_ne];omega
 have⟨d5,HS,HN,HH,R,c3⟩:=Kq ih hS hN h l z;clear z;have k5:IntKind.i64.wrap (m:Int)=(m:Int):=qin _ (by omega);clear ih hS hN h a7 l;go_enter Tp.x136,Tryz.ntmps136;go_wp2;go_loopw [10] (λX wr=>∃i:Nat,X=.int .i64 i/\a<=i/\i<=1001/\∃w L,zS ws (m+1) b a=L++zS ws (m+1) b i/\I (done++L) w wr/\Bod n1 n1 G w W wr) (λX _=>(1002 - qiF X).toNat)
 case atStart=>exact⟨a,rfl,qhv _,a8,G,[],rfl,by simpa using HH.out,jV (qhD _ _)⟩
 case round=>
  obtain⟨i,rfl,a9,l5,w,L,hL,O,k⟩:=hrel;have f:=qhp (HS.bod k);have c8:=qhp (HN.bod k);have⟨HL,u,T⟩:=ze hL O k;clear hL O k;have c1:wr.cell? Lv=some (.slice lb ws.length lc):=q8 f.ls rfl;by_cases d:i<ws.length
  ·have e7:(i:Int)<(ws.length:Int):=by omega
   obtain⟨x,q⟩:∃x,ws[i]?=some x:=⟨_,qhz d⟩;obtain⟨b1,m4,he,-,hc⟩:=f.out.li.1.cell;cases he;obtain⟨LB,lo,rfl,m3,l9,l8,P⟩:=hc (by intro e;rw[e] at d;simp at d);have U:=P i d;rw[q] at U;simp only[qhC] at U;have d0:wr.cell? Gp=some (.func (.func 136) #[] #[.pointer (some E),.pointer (some Lv),.pointer (some Gp)]):=q8 f.gr rfl;have d1:=c1;have d2:=U;have k6:IntKind.i64.wrap ((i:Int)+1)=((i+1:Nat):Int):=by rw[qin _ (by omega)];rfl
   have a6:0<=(i:Int):=by omega
   have k7:(b.length:Int)<=(nc:Int):=by omega
   have s:=qhp q;clear hc P U q;go_upto_region 6 with(fail);refine qz 17 (λv=>v.cell? Gp=some (.func (.func 136) #[] #[.pointer (some E),.pointer (some Lv),.pointer (some Gp)])/\v.cell? Lv=some (.slice (some ⟨LB,lo,none⟩) ws.length lc)/\v.cell? ⟨LB,lo+i,none⟩=some (.int .i64 x)) (by kernel_rfl) (by kernel_rfl) ⟨d0,d1,d2⟩ (λhHeld=>?_);simp only[qhE,qi1,qib,qiA,qi6,qie,qif,qio,qii,qi7];refine tk 0 (h:=tk 1 (h:=tk 2 (h:=tk 3 (h:=tk 4 (h:=tk 5 (h:=tk 6 (h:=tk 7 (h:=tk 8 (h:=tk 9 (h:=tk 10 (h:=tk 13 (h:=tk 14 (h:=tk 15 (h:=tk 16 (h:=?_)))))))))))))));try go_frame
   refine rdc 11 λK M=>?_;go_simp;refine M.out _ _ (by first | exact V | exact hHeld | exact⟨(qhq _ _ none).cl hHeld.1,(qhq _ _ none).cl hHeld.2.1,(qhq _ _ none).cl hHeld.2.2⟩) (λhHeld=>?_);clear M K;try go_frame
   refine rdc 12 λK M=>?_;refine q5s rfl (.tmp 29) (.tmp 34) rfl (nc:=nc) (B:=wr.heap.size) (y:=x) (by rfl) (by rfl) (((c8.1.kept ((qe wr none).trans (qhq wr.drew (.cells #[.int .i64 x] 3) none))).mono (qiu _) ((qe wr none).trans (qhq wr.drew (.cells #[.int .i64 x] 3) none)).size)) (kS wr.drew _ _ _) (by omega) (λg Q v q1 q2 q3 q5=>?_);have j:=qhp (((qe wr none).trans (qhq wr.drew (.cells #[.int .i64 x] 3) none)).trans q2);have⟨b8,b9,b7⟩:=ze q3 q1 q5;have V:=qi8 (j.cl d0) (qi8 (j.cl d1) (j.cl d2));clear q1 q2 q3 q5;refine M.out _ _ (by first | exact V | exact hHeld | exact⟨(qhq _ _ none).cl hHeld.1,(qhq _ _ none).cl hHeld.2.1,(qhq _ _ none).cl hHeld.2.2⟩) (λhHeld=>?_);clear M K;try go_frame
   refine⟨by kernel_rfl,?_⟩;simp only[qig,qit];clear hHeld V;have Z:n1<=wr.heap.size:=qri (Nat.lt_of_le_of_lt f.ge.1 (qhs.1 f.en).1);have D:(wr.drew.alloc (.cells #[.int .i64 x] 3)).heap.size=wr.heap.size+1:=by rw[qhH];rfl
   have Y:wr.heap.size<=g:=by have h1:=b9.out;have h2:((wr.alloc (.cells #[.int .i64 x] 3)).drew).heap.size=wr.heap.size+1:=(by rw[World.size_drew,qhH]);omega
   have F:=f.out.bod (jV j);have N:=cb.hI _ _ _ _ u j;have H:J4 n1 w v (.slice (some ⟨g,0,none⟩) (b.length+1) Q) (b++[x]):=by
    refine⟨b8.mono (qhB Z (qri (by rw[<- Nat.add_one_le_iff];exact qlB D.symm))) (qhv _),λB o n c e _ hg=>?_⟩;cases e;have:=cb.hlt _ _ _ u _ hg;omega
   have r:=d5.out (b++[x]) (i+1) (some ⟨g,0,none⟩) Q v w (done++L) (by simp;omega) (by omega) (by
    rw[qj7,s];exact List.Sublist.append (R.trans (List.take_sublist_take_left a9)) (by simp)) F (by simpa using H) (.inl (by simp)) (by simpa using b7.out) (by
    have⟨t,ht⟩:=c3.out;rw[HL,Zp d,s] at ht;exact⟨_,by rw[ht];simp only[qk8];rfl⟩) N
   rw[qj1,qov] at r;have S:=qhp r;clear r H N F D Y;go_wp2_with (go_at_call 136;refine(S).mono ?_;rintro e w6 ⟨rfl,G6,b6,b0⟩);go_roundw
   case rel=>
    refine⟨i+1,by simp,by omega,by omega,G6,L++zS ws m (b++[x]) (i+1),?_,by rw[<- qk8];exact b6,T.trans ((jV j).trans b0)⟩;rw[HL,Zp d,s,qk8];rfl
   case measure=>simp[qiF];omega
  ·have a6:¬ (i:Int)<(ws.length:Int):=by omega
   go_wp2;go_ret;exact⟨rfl,w,by rw[HL,q1v (by omega),List.append_nil];exact u,T⟩
def qeB{n1 E Lv Gp:Nat}{lb:Option qiG}{lc:Nat}{ws:List Int}{fE:qj8}{jD:Array qhu}{I:List (List Int)->(Nat->Prop)->qhr->Prop}(l:Cb n1 ws fE jD I)(e:ws.length<=1000) :∀(m:Nat) (b:List Int) (a:Nat) (d:Option qiG) (c:Nat) (W:qhr) (G:Nat->Prop) (done:List (List Int)),m+b.length<=ws.length->a<=1001->b.Sublist (ws.take a)->JZ n1 E Lv Gp lb lc ws fE jD G W->J4 n1 G W (.slice d b.length c) b->(b≠[]\/qjc d b.length c=.slice none 0 0)->b.length<=c->qcC ws done (zS ws m b a)->I done G W ->qis Ya 136 #[.slice d b.length c,a,m,.pointer (some E),.pointer (some Lv),.pointer (some Gp)] W (GrA n1 I (zS ws m b a) done G W)
 | 0,b,a,d,c,W,G,done,_,_,k,j,i,h,_,f,g=>qgG l k j i h f g
 | m+1,b,a,d,c,W,G,done,p,n,k,j,i,h,f,o,g=>by
  have:=qgF l e m (qeB l e m) b a d c W G done p n k j i h f o g
  rwa [show((m:Int)+1)=((m+1:Nat):Int) by omega] at this
end
section
open Go.RowKit Go.Shelf
attribute [local go_sem] Oper.semAt_some
def Ze{Y:Type}(f:Nat->Y)(k:Nat):List Y:=(qil k).map f
def q0v{Y:Type}(f:Nat->Y)(k:Nat):Ze f (k+1)=Ze f k++[f k]:=by simp[Ze,qlo]
def q3e{Y:Type}(f:Nat->Y)(k:Nat):(Ze f k).length=k:=by simp[Ze]
def qa0(a:List Int):Ze (λj=>a[j]?.getD 0) a.length=a:=by
 apply qrx
 ·simp[Ze]
 ·intro i c b;simp[Ze,b]
def q85(a:List Int){k:Nat}(b:k<=a.length):Ze (λj=>a[j]?.getD 0) k=a.take k:=by
 apply qrx
 ·simp[Ze,b]
 ·intro i c d;have:i<a.length:=by simp[Ze] at c;omega
  simp[Ze,this]
def q5n(F:Fence)(n:Nat)(P:F.fn 165)(u:F.round=none)(S:1<=n)(l Bs n₀ b c a A:Nat)(d:List Int)(s:a*8<=140737488351232)(L:b<n₀)(J H:List Int->qhr->Prop)(M:∀pre x W,J pre W->pre.length<a->YieldAt F (n - 1) Ya l #[.int .i64 x] W λe f =>(e=.returned (.bool true)/\J (pre++[x]) f/\Below n₀ W f)\/(e=.returned (.bool false)/\H (pre++[x]) f))(W:qhr)(O:W.cell? Bs=some (.slice (some ⟨b,c,none⟩) a A))(I:∀j,j<a->W.cell? ⟨b,c+j,none⟩=some (.int .i64 (d[j]?.getD 0)))(Q:J [] W) :CallsIn F n Ya 165 #[.func (.yield l) #[] #[],.pointer (some Bs)] W λe f=>(∃v,e=.returned v) /\((∃B,B=Ze (λj=>d[j]?.getD 0) a/\J B f)\/(∃pre,(∃k,k<=a/\pre=Ze (λj=>d[j]?.getD 0) k)/\H pre f)):=by
 refine qpt Tp.x165 rfl P ?_ u;simp only[Tryz.ntmps165,qim,qhE,qi1,qib,qiA,qie,qif,qio,ql1,qii,qi7]
 gi_wp2
 gi_loopw [7] (λi wr=>∃k:Nat,k<=a/\i=.int .i64 k/\J (Ze (λj=>d[j]?.getD 0) k) wr/\Below n₀ W wr)
  (λi _=>a - (qiF i).toNat)
 case atStart=>exact⟨0,qiu _,rfl,Q,qns _ _⟩
 case round=>
  obtain⟨k,T,rfl,r,g⟩:=hrel;have y:k<a->wr.cell? ⟨b,c+k,none⟩=some (.int .i64 (d[k]?.getD 0)):=λh=>(g.cell (p:=⟨b,c+k,none⟩) L).trans (I k h);by_cases o:k<a
  ·have⟨U,C,t,G,R,N⟩:=M _ (d[k]?.getD 0) wr r (by rw[q3e];exact o);have D:=y o
   gi_wp2
   refine N.mono ?_;rintro e V (⟨rfl,z,w⟩ | ⟨rfl,q⟩)
   ·gi_wp2
    go_roundw
    case rel=>exact⟨k+1,by omega,by simp,by rw[q0v];exact z,g.trans w⟩
    case measure=>simp[qiF];omega
   ·gi_wp2
    refine qka (results_none rfl _ _ _) rfl ?_;exact⟨⟨_,rfl⟩,.inr ⟨_,⟨k+1,by omega,(q0v _ _).symm⟩,q⟩⟩
  ·obtain rfl:k=a:=by omega
   gi_wp2
   go_end0;exact⟨⟨_,rfl⟩,.inl ⟨_,rfl,r⟩⟩
def q28(F:Fence)(n:Nat)(f:F.fn 165)(a:F.round=none)(l Bs:Nat)(J:List Int->qhr->Prop)(W:qhr)(c:Option qiG)(k:Nat)(d:W.cell? Bs=some (.slice c 0 k))(g:J [] W) :CallsIn F n Ya 165 #[.func (.yield l) #[] #[],.pointer (some Bs)] W λe h=>(∃v,e=.returned v)/\J [] h:=by
 refine qpt Tp.x165 rfl f ?_ a;simp only[Tryz.ntmps165,qim,qhE,qi1,qib,qiA,qie,qif,qio,ql1,qii,qi7]
 gi_wp2
 gi_loopw [7] (λi wr=>i=.int .i64 0/\J [] wr) (λ_ _=>0)
 case atStart=>exact⟨rfl,g⟩
 case round=>
  obtain⟨rfl,b⟩:=hrel
  gi_wp2
  go_end0;exact⟨⟨_,rfl⟩,b⟩
def q27(F:Fence)(n:Nat)(A:F.fn 165)(f:F.round=none)(D:1<=n)(Bs n₀:Nat)(v:qhu)(a:List Int)(w:qhr)(s:Bs<w.heap.size)(hn₀:n₀<=w.heap.size)(I:w.cell? Bs=some v)(M:qg 0 n₀ w v a) :SeqStopsK F n Ya 165 #[.pointer (some Bs)] (λx:Int=>#[qid .i64 x]) (Below n₀) (λu=>u=a) (λpre=>pre <+: a) a.length w:=λl J P W z _ _ L C=>by
 have g:=(z.cell (p:=⟨Bs,0,none⟩) s).t I;obtain⟨base,i,rfl,G,r⟩:=M.cell;by_cases y:a=[]
 ·subst y;exact(q28 F n A f l Bs J W base i g C).mono λe O ⟨q,c⟩=>⟨q,.inl ⟨_,rfl,c⟩⟩
 ·obtain⟨B,o,rfl,-,N,h,d⟩:=r y;have b:∀j,j<a.length->W.cell? ⟨B,o+j,none⟩=some (.int .i64 (a[j]?.getD 0)):=λj c=>(z.cell (p:=⟨B,o+j,none⟩) h).t (d j c);refine(q5n F n A f D l Bs n₀ B o a.length i a (by omega) N J P L W g b C).mono ?_;rintro e O ⟨q,⟨u,rfl,c⟩ | ⟨pre,⟨k,H,rfl⟩,c⟩⟩
  ·exact⟨q,.inl ⟨_,qa0 a,c⟩⟩
  ·exact⟨q,.inr ⟨_,by rw[q85 a H];exact List.take_prefix _ _,c⟩⟩
def q33(F:Fence)(n:Nat)(X:F.fn 199)(L:F.fn 165)(f:F.round=none)(hn:3<=n)(Bs:Nat)(t:qhu)(i:List Int)(w:qhr)(H:Bs<w.heap.size)(G:w.cell? Bs=some t)(I:qg 0 w.heap.size w t i) :CallsIn F n Ya 199 #[.slice none 0 0,.func (.func 165) #[] #[.pointer (some Bs)]] w λe N=>∃v,e=.returned v/\N.ownsRow w.heap.size 3 1 v i.length (i.map (qid .i64))/\(v=.slice none 0 0↔i=[])/\Below w.heap.size w N:=by
 have Y:1<=n:=by omega
 have R:(i.length:Int)<=1000000:=by obtain⟨_,_,_,h,_⟩:=I;exact h
 have⟨O,S,z,y,u⟩:=qjx Tp.info3p;refine qnC Tp.x199 rfl X ?_ f;simp only[Tryz.ntmps199,qim,qhE,qi1,qib,qiA,qie,qif,qio,ql1,qii,qi7]
 gi_wp2
 have Z:=Boxed.new w 29 (.slice none 0 0);have q:Below w.heap.size w (w.alloc (.cells #[.slice none 0 0] 29)):=(qns _ w).alloc (qhv _) _;refine wpIn_rangeFunc_ownG f Y (gf:=165) (lb:=#[.pointer (some Bs)]) rfl L (enters_of Tp.x165 (by kernel_rfl) rfl)
  (q27 F (n - 1) L f (by omega) Bs w.heap.size t i _ (by simp;omega) (by simp) ((q.cell (p:=⟨Bs,0,none⟩) H).trans G) (I.alloc _)) belowK_t (belowK_b (by simp)) (qns _ _) (λ_=>rfl)
  (λpre W=>(∃v,Boxed W w.heap.size 29 v/\W.ownsRow w.heap.size 3 1 v pre.length (pre.map (qid .i64))/\(v=.slice none 0 0↔pre=[]))/\Below w.heap.size w W)
  (λ_ _ _=>False)
  (OwnFrom.and (Own.from (holdsRow_own w.heap.size w.heap.size 29 3 1 (λpre=>pre.length) (λpre=>pre.map (qid .i64)) (λpre v=>v=.slice none 0 0↔pre=[])) _) (ownFrom_below (qhv _) (by simp)))
  (λ_ _ _ _ _ P _ _=>P)
  ⟨⟨_,Z,qjF _ _ _ _,by simp⟩,q⟩
  (λx=>{ tmps:=#[.slice none 0 0,.func (.func 165) #[] #[.pointer (some Bs)],.pointer (some w.heap.size),qhx,.slice none 0 0,.int .i64 x,.func (.func 165) #[] #[.pointer (some Bs)],.int .i64 x,qhx,qhx,qhx,qhx,qhx],defers:=[] }) ?assign ?body ?done ?stop
 case assign=>
  intro l x W K o
  gi_wp2
  exact o
 case body=>
  rintro l pre x W ⟨⟨v,s,a,d⟩,r⟩ Q;have G:=s.cell
  gi_wp2_with (gi_at_builtin;refine wpListIn_append_own _ rfl _ _ 29 rfl w.heap.size 3 O (.int .i64 0) 1 8 Tp.und29' S z y u rfl (by decide) _ _ _ rfl (a.alloc _) ⟨W.heap.size,0,none⟩ 1 1 [.int .i64 x] rfl rfl (cell_one_new _ _ _) (by simp[qjD]) (by simp[qlg];omega) (by omega) (by have:=r.size;simp;omega) ?_;intro v' w1 b g _;obtain⟨g',M,rfl⟩:=qn6 b;have⟨j,A,B,C,k⟩:=s.appended (by decide) a r.size (qhv _) b g;have U:=j.cell;have T:=j.frozen)
  exact⟨C.from _,k,⟨_,A,by simpa using B,by simp⟩,r.trans k⟩
 case done=>
  rintro D ys W V rfl ⟨⟨v,s,a,d⟩,r⟩ o;have G:=s.cell
  gi_wp2
  refine⟨by simp,.inl ⟨_,_,rfl,qnA o,?_⟩⟩;exact⟨_,results_tmp rfl _ _ _,v,rfl,ownsRow_putObj a _ o rfl,d,r.trans (belowK_b (w:=w) (qhv _) W D _ _ (by simp at V;omega) o rfl rfl)⟩
 case stop=>
  rintro D c pre W _ _ h _;exact h.elim
def q0s(Bs:Nat)(b:qhu)(a:List Int)(w:qhr)(c:Bs<w.heap.size)(f:w.cell? Bs=some b)(g:qg 0 w.heap.size w b a) :qis Ya 199 #[.slice none 0 0,.func (.func 165) #[] #[.pointer (some Bs)]] w λe d=>∃v,e=.returned v/\d.ownsRow w.heap.size 3 1 v a.length (a.map (qid .i64))/\(v=.slice none 0 0↔a=[])/\Below w.heap.size w d :=
 (qjA (n:=3)).1 (q33 Fence.wide 3 trivial trivial rfl (by omega) Bs b a w c f g)
def vX{w a:qhr}(h:Below w.heap.size w a):w.gb a none:=⟨h.os,h.tape,h.output,h.size,λk b _=>h.block k b⟩
def qbg{n:Nat}{w:qhr}{v:qhu}{l:List Int}(h:w.ownsRow n 3 1 v l.length (l.map (qid .i64)))(q:(l.length:Int)<=1000000):∃base B c,v=.slice base l.length c/\n<=B/\Za base B w l/\(v=.slice none 0 0\/base≠none):=by
 obtain⟨s,⟨rfl,f⟩ | ⟨g,b,a,rfl,o,k,r,hm,p,j⟩⟩:=h
 ·exact⟨none,n,0,by rw[f],qhv _,.inr (qja f),.inl rfl⟩
 ·refine⟨_,g,b,rfl,o,.inl ⟨rfl,a,k,λi d=>?_⟩,.inr (by simp)⟩;have e:(a.toList.take (l.length*1))[i]?=some (.int .i64 (l[i]?.getD 0)):=by
   rw[j];simp[qhz d]
  rw[qn2] at e;simpa[d] using e
def Za.ints{base:Option qiG}{B c n:Nat}{w:qhr}{L:List Int}(h:Za base B w L)(d:n<=B)(a:(L.length:Int)<=1000000):qg n w.heap.size w (.slice base L.length c) L:=by
 rcases h with⟨rfl,g,b,f⟩ | rfl
 ·exact⟨_,c,rfl,a,λ_=>⟨B,0,g,(0,0),rfl,d,(qhs.1 b).1,b,λi e=>by rw[qi6];exact f i e⟩⟩
 ·exact⟨base,c,rfl,a,λh=>absurd rfl h⟩
def q53(Bs:Nat)(d:qhu)(a:List Int)(w:qhr)(f:Bs<w.heap.size)(h:w.cell? Bs=some d)(j:qg 0 w.heap.size w d a) :qis Ya 163 #[.func (.func 165) #[] #[.pointer (some Bs)]] w λe g=>∃v,e=.returned v/\g.ownsRow w.heap.size 3 1 v a.length (a.map (qid .i64))/\(v=.slice none 0 0↔a=[])/\w.gb g none:=by
 go_enter Tp.x163,Tryz.ntmps163;go_wp2_with (go_at_call 199;refine(q0s Bs d a w f h j).mono ?_;rintro e k ⟨v,rfl,b,c,i⟩);go_ret;exact⟨_,rfl,b,c,vX i⟩
def q62(Bs:Nat)(k:qhu)(a:List Int)(w:qhr)(n:Bs<w.heap.size)(x:w.cell? Bs=some k)(y:qg 0 w.heap.size w k a)(o:a.length<=12) :qis Ya 134 #[.func (.func 165) #[] #[.pointer (some Bs)]] w λe p=>∃v,e=.returned v/\qg w.heap.size p.heap.size p v (jC a.length a)/\(v=.slice none 0 0↔jC a.length a=[])/\w.gb p none:=by
 have l:(a.length:Int)<=1000000:=by omega
 go_enter Tp.x134,Tryz.ntmps134;go_wp2_with (first
  | (go_at_call 163;refine(q53 Bs k a w n x y).mono ?_;rintro e D ⟨v,rfl,b,d,t⟩;obtain⟨base,B,c,rfl,u,f,-⟩:=qbg b l;have q:=qhp f;have z:=qhp d;have A:=qhp t;clear b f d t)
  | (go_at_call 164;refine(qgo base B c a _ q o).mono ?_;rintro e C ⟨rfl,i,g⟩;have s:=qhp i;have r:=qhp g;clear i g))
 go_ret;have h:=Za.ints (c:=c) r u (by rw[xK];omega);rw[xK] at h;refine⟨_,rfl,h,z.trans ⟨λe=>by rw[e];rfl,λe=>?_⟩,A.andThen s (λj e=>by cases e;exact .inl u)⟩;have:=xK a.length a;rw[e] at this;exact qja this.symm
def J2(l b:List Int):Prop:=∀(Bs:Nat) (sv:qhu) (w:qhr),Bs<w.heap.size->w.cell? Bs=some sv->qg 0 w.heap.size w sv l ->
 qis Ya 134 #[.func (.func 165) #[] #[.pointer (some Bs)]] w λe a=>∃v,e=.returned v/\qg w.heap.size a.heap.size a v b/\(v=.slice none 0 0↔b=[])/\w.gb a none
def q8l{l:List Int}(a:l.length<=12):J2 l (jC l.length l):=λBs b w e d c=>q62 Bs b l w e d c a
def q8k{l:List Int}(a:l.length<=12)(b:∀i,i+1<l.length->l[i]?.getD 0<=l[i+1]?.getD 0):J2 l l:=by
 have:=q8l a
 rwa [Km b _ (qhv _)] at this
end
section
open Go.RowKit
def xW{A C E:qhr}{r:Nat}(h:A.gb C none)(k:C.gb E (some r))(a:A.heap.size<=r):A.gb E none:=h.andThen k (λj e=>by cases e;exact .inl a)
def qgm{ll f:List Int}{b:Option qiG}{c:Nat}{Q:qj8}{jD:Array qhu}{I:List (List Int)->(Nat->Prop)->qhr->Prop}{W:qhr}(cb:Cb W.heap.size f Q jD I)(d5:f.length<=1000)(hS:J2 ll f)(hI:qg 0 W.heap.size W (.slice b ll.length c) ll){G:Nat->Prop}(h0:I [] G W) :qis Ya 82 #[.slice b ll.length c,.func (.func Q) #[] jD] W λe W'=>e=.returned (.bool false)/\∃G',I (jZ f 0) G' W':=by
 obtain⟨d,g⟩:∃d,d=W.heap.size:=⟨_,rfl⟩;obtain⟨p,l⟩:∃p,p=(W.alloc (.cells #[.slice b ll.length c] 29)).alloc (.cells #[.func (.func Q) #[] jD] 51):=⟨_,rfl⟩;have s:W.gb p none:=by rw[l];exact(qhq _ _ none).trans (qhq _ _ none)
 have l1:p.heap[d]?=some (.cells #[.slice b ll.length c] 29 (0,0)):=by rw[l,g];exact qq (qhA W _)
 have e1:p.heap[d+1]?=some (.cells #[.func (.func Q) #[] jD] 51 (0,0)):=by
  rw[l];have:=qhA (W.alloc (.cells #[.slice b ll.length c] 29)) (.cells #[.func (.func Q) #[] jD] 51);rw[qhH,<- g] at this;exact this
 have U:p.heap.size=d+2:=by rw[l,qhH,qhH,g]
 have c1:p.cell? d=some (.slice b ll.length c):=q8 l1 rfl;have z1:=qn (o:=0) l1;have V:d<p.heap.size:=by omega
 have h9:=qhp ((hI.kept s).mono (qhv _) s.size);have⟨e9,A,p8,k5,g7,k7,HH⟩:=q6k l g U s l1 e1 h0;clear l g U s l1 e1 hI h0;go_enter Tp.x82,Tryz.ntmps82;go_upto_region 1 with(fail);rw[<- A,<- e9];go_upto_region 2 with(first
  | (go_at_call 135;refine(Zd _ _ _ _).mono ?_;rintro e w2 ⟨rfl,rfl⟩)
  | (go_at_call 134;refine(hS p.heap.size (.slice b ll.length c) _ (by simp) (by rw[kS];rfl) ((h9.alloc _).mono (qhv _) (by simp))).mono ?_;rintro e w2 ⟨v,rfl,M,D,r⟩;obtain⟨T,S,rfl,-,-⟩:=M.cell;have c2:=(((qhq p (.cells #[.slice b ll.length c] 29) none).trans r).cl c1);have z2:=(((qhq p (.cells #[.slice b ll.length c] 29) none).trans r).frozen_far _ V (by simp)).trans z1;have h8:=qhp M;have P:=qhp ((qhq p (.cells #[.slice b ll.length c] 29) none).trans r);have p9:=qhp D;clear M D r))
 obtain⟨O,u⟩:∃O,O=w2.setCell d (.slice T f.length S):=⟨_,rfl⟩;rw[<- u];have i:=qh w2 d 0 (.slice T f.length S);rw[<- u] at i;have l4:O.heap[d]?=some (.cells #[.slice T f.length S] 29 (0,0)):=by rw[u,qi (bk P g7)];rfl
 have e4:=blk (X:=d+1) i (by simp) (bk P k7);have i4:=(h8.kept i (λR e=>by cases e;left;rw[qhH];omega)).mono (show W.heap.size<=_ by rw[qhH];have:=A.out;omega) i.size;have g4:W.gb O none:=xW (k5.trans P) i (by rw[A];exact qhv _);have⟨g6,k6,b6,b7⟩:=j8 l4 e4 i4 g4;clear u i l4 e4 i4 g4 c1 z1 c2 z2;have n2:∀(a:qiG) (fn:Fn) (x y:Array qhu) (m:Mode) (w:qhr),(store a (.func fn x y) m).run Ya w=stored Ya w a (.func fn x y) m:=λa fn x y m w=>run_store _ w a _ m rfl;go_upto_region 4 with(fail);obtain⟨C,z⟩:∃C,C=O.heap.size:=⟨_,rfl⟩;obtain⟨N,t⟩:∃N,N=O.alloc (.cells #[.func (.func 136) #[] #[.pointer (some (d+1:Nat)),.pointer (some d),.pointer (some C)]] 151):=⟨_,rfl⟩;rw[<- z,<- t];have j:O.gb N none:=by rw[t];exact qhq _ _ none
 have p5:N.heap[C]?=some (.cells #[.func (.func 136) #[] #[.pointer (some (d+1:Nat)),.pointer (some d),.pointer (some C)]] 151 (0,0)):=by rw[t,z];exact qhA _ _
 have q:∀k,W.heap.size<=k->¬ G k:=λk hk h=>by have:=cb.hlt _ _ _ HH k h;omega
 have g:=A.out;have a8:W.heap.size<=C:=by rw[z];exact b7.size
 have H:JZ W.heap.size (d+1) d C T S f Q jD G N:=by
  refine⟨bk j k6,bk j g6,⟨(b6.kept j).mono (qhv _) j.size,λB o n c' e d6 hg=>?_⟩,p5,⟨by omega,by omega,a8⟩,q _ (by omega),q _ (by omega),q _ a8⟩;have⟨base,p3,e',hl,hr⟩:=b6.out;cases e';have⟨B',o',cs,fr,e1,e2,e3,e4,e5⟩:=hr d6;cases e;cases e1;exact q _ e2 hg
 have a7:=cb.hI _ _ _ _ HH (b7.trans j);have⟨g5,g9⟩:=qE H a7;have m8:IntKind.i64.wrap ((f.length:Int)+1)=((f.length+1:Nat):Int):=by rw[qin _ (by omega)];rfl
 have cL:N.cell? d=some (.slice T f.length S):=q8 H.ls rfl;clear H a7 p5 j t z q g;go_wp2;go_loopw [14] (λiv wr=>∃k:Nat,iv=.int .i64 k/\k<=f.length+1/\∃Gk L,jZ f 0=L++jZ f k/\I L Gk wr/\Bod W.heap.size W.heap.size G Gk N wr) (λiv _=>(f.length+1 - qiF iv).toNat)
 case atStart=>exact⟨0,rfl,by omega,G,[],rfl,g9,jV (qhD _ _)⟩
 case round=>
  obtain⟨k,rfl,hk,Gk,L,hL,a6,F⟩:=hrel;have a9:=qhp (g5.bod F);have⟨HL,b0,k8⟩:=ze hL a6 F;clear hL a6 F cL;have c1:wr.cell? C=some (.func (.func 136) #[] #[.pointer (some (d+1:Nat)),.pointer (some d),.pointer (some C)]):=q8 a9.gr rfl;by_cases Y:k<f.length+1
  ·have l8:(k:Int)<(f.length:Int)+1:=by omega
   have m9:IntKind.i64.wrap ((k:Int)+1)=((k+1:Nat):Int):=by rw[qin _ (by omega)];rfl
   have Z:=qeB cb d5 k [] 0 none 0 wr Gk L (by simp;omega) (by omega) (by simp) a9 ⟨qg.nil _ _ _,λB o n c e=>by cases e⟩ (.inr rfl) (by simp) ⟨_,by rw[HL,Ja Y]⟩ b0;have k0:=qhp Z;clear Z;go_wp2_with (go_at_call 136;refine(k0).mono ?_;rintro e w6 ⟨rfl,G6,d8,d7⟩);go_roundw
   case rel=>exact⟨k+1,by simp,by omega,G6,L++zS f k [] 0,by rw[HL,Ja Y,qk8],d8,k8.trans d7⟩
   case measure=>simp[qiF];omega
  ·obtain rfl:k=f.length+1:=by omega
   go_wp2;go_ret;exact⟨rfl,Gk,by rw[HL,q3s (qhv _),List.append_nil];exact b0⟩
end
section
open Go.RowKit
def q1B(x b:List Int):Bool:=decide (je x b<0)
def q1A(g i f h:Nat)(d c:qhu)(a b:List Int)(w:qhr)(l:qg g i w d a)(k:qg f h w c b) :qis Ya 99 #[d,c] w λe j=>e=.returned (.bool (q1B a b))/\w=j:=JR g i f h d c a b w l k
def qha(L:Nat)(s:Bool)(d c:qhu)(a x:List Int)(w b:qhr):Prop :=
 w.gb b (some L)/\b.heap[L]?=some (.cells #[.func (.func 99) #[] #[],if s=true/\q1B x a=false then d else c,.bool true] 108 (0,0))
def q87(L:Nat)(s:Bool)(k g:qhu)(a x:List Int)(w:qhr)(c:w.heap[L]?=some (.cells #[.func (.func 99) #[] #[],k,.bool s] 108 (0,0)))(j:qg 0 w.heap.size w k a)(i:qg 0 w.heap.size w g x) :qis Ya 103 #[.pointer (some L),g] w λe q=>e=.returned (.tuple #[])/\qha L s k g a x w q:=by
 obtain⟨z,y,rfl,-,-⟩:=j.cell;obtain⟨f,d,rfl,-,-⟩:=i.cell;have v:w.cell? L=some (.func (.func 99) #[] #[]):=q8 c rfl;have u:w.cell? ⟨L,1,none⟩=some (.slice z a.length y):=q8 c rfl;have r:w.cell? ⟨L,2,none⟩=some (.bool s):=q8 c rfl;have B:w.frozen? ⟨L,1,none⟩=false:=qn c;have A:w.frozen? ⟨L,2,none⟩=false:=qn c;have⟨l,o,n⟩:=ze c j i;have C:=qhp (qi8 v (qi8 u r));clear c j i;go_enter Tp.x103,Tryz.ntmps103;cases s with
 | false=>
  go_wp2_with (fail);go_quiet (fail);go_wp2;go_end0;refine⟨rfl,((qk _ _ _).t (qh _ _ _ _)).t (qh _ _ _ _),?_⟩;rw[if_neg (by simp ),qi (show((w.drewN nq).setCell ⟨L,1,none⟩ (.slice f x.length d)).heap[L]?=some (.cells #[.func (.func 99) #[] #[],.slice f x.length d,.bool false] 108 (0,0)) by rw[qi (show(w.drewN nq).heap[L]?=_ from l)];rfl)];rfl
 | true=>
  cases hl:q1B x a with
  | true=>
   have b:=qhp hl;clear hl;go_wp2_with (fail);go_quiet (first | (go_at_call 99;refine qk0 ((q1A 0 w.heap.size 0 w.heap.size _ _ x a _ (n.kept (qk _ _ none)) (o.kept (qk _ _ none))).mono (λe p h=>⟨by rw[h.1,b],h.2.symm⟩))));go_wp2;go_end0;refine⟨rfl,((qk _ _ _).t (qh _ _ _ _)).t (qh _ _ _ _),?_⟩;rw[if_neg (by simp[b.out]),qi (show((w.drewN nq).setCell ⟨L,1,none⟩ (.slice f x.length d)).heap[L]?=some (.cells #[.func (.func 99) #[] #[],.slice f x.length d,.bool true] 108 (0,0)) by rw[qi (show(w.drewN nq).heap[L]?=_ from l)];rfl)];rfl
  | false=>
   have b:=qhp hl;clear hl;go_wp2_with (fail);go_quiet (first | (go_at_call 99;refine qk0 ((q1A 0 w.heap.size 0 w.heap.size _ _ x a _ (n.kept (qk _ _ none)) (o.kept (qk _ _ none))).mono (λe p h=>⟨by rw[h.1,b],h.2.symm⟩))));go_wp2;go_end0;refine⟨rfl,(qk _ _ _),?_⟩;rw[if_pos ⟨rfl,b⟩];exact l
def Ko(l:List Int)(x:Int):Int:=if x∈l then((l.takeWhile λy=>y != x).length:Int) else -1
def qgk{l:List Int}{x:Int}{k:Nat}(h:l[k]?=some x)(b:∀i,i<k->l[i]?≠some x):(l.takeWhile λy=>y != x).length=k:=by
 induction l generalizing k with
 | nil=>simp at h
 | cons a t c=>
  cases k with
  | zero=>simp at h;subst h;simp
  | succ k=>
   have d:a≠x:=λe=>b 0 (by omega) (by simp[e]);rw[qnu (by simpa using d),qhE,c (by simpa using h) (λi f e=>b (i+1) (by omega) (by simpa using e))]
def qbA(b:Option qiG)(c:Nat)(l:List Int)(x:Int)(w:qhr)(F:(l.length:Int)<=1000000)(A:l≠[]->∃B o,b=some ⟨B,o,none⟩/\∀i,i<l.length->w.cell? ⟨B,o+i,none⟩=some (.int .i64 (l[i]?.getD 0))):qis Ya 147 #[.slice b l.length c,x] w λe C=>e=.returned (.int .i64 (Ko l x))/\w=C:=by
 have G:=qhp A;clear A;go_enter Tp.x147,Tryz.ntmps147;go_wp2;go_loopw [8] (λq wr=>∃k:Nat,q=.int .i64 k/\k<=l.length/\(∀i,i<k->l[i]?≠some x)/\w=wr) (λq _=>(l.length - qiF q).toNat)
 case atStart=>exact⟨0,rfl,by omega,λi p=>by omega,rfl⟩
 case round=>
  obtain⟨k,rfl,H,j,rfl⟩:=hrel;have f:=qhp j;clear j;by_cases d:k<l.length
  ·obtain⟨B,o,rfl,n⟩:=G.out (by intro e;rw[e] at d;simp at d);obtain⟨y,r⟩:∃y,l[k]?=some y:=⟨_,qhz d⟩;have v:=n k d;rw[r] at v;simp only[qhC] at v;have z:(k:Int)<(l.length:Int):=by omega
   have s:=qhp r;clear n r;by_cases a:x=y
   ·subst a;have g:Ko l x=(k:Int):=by
     unfold Ko;rw[if_pos (qi9 s),qgk s f]
    have u:=qhp g;clear g;go_wp2;go_ret;exact⟨by rw[u];rfl,by first | rfl | trivial⟩
   ·have D:(x == y)=false:=by simpa using a
    have t:=qhp a;clear a;go_wp2;go_roundw
    case rel=>
     refine⟨k+1,by simp,by omega,λi p e=>?_,by first | rfl | trivial⟩;by_cases h:i=k
     ·subst h;rw[s] at e;cases e;exact t rfl
     ·exact f i (by omega) e
    case measure=>simp[qiF];omega
  ·obtain rfl:k=l.length:=by omega
   have g:Ko l x=-1:=by
    unfold Ko;rw[if_neg];intro hm;have⟨i,p⟩:=qp2 hm;exact f i (qi3.1 p).1 p
   have u:=qhp g;clear g;go_wp2;go_ret;exact⟨by rw[u];rfl,by first | rfl | trivial⟩
attribute [local go_sem] q6t q2y
def qcj(B o f:Nat)(H:qi4)(z:Array qhu)(N:Nat × Nat)(l:List Int)(w:qhr)(y:w.heap[B]?=some (.cells z H N))(v:∀i,i<l.length->z[o+i]?=some (.int .i64 (l[i]?.getD 0)))(I:l.length<=1000) :qis Ya 84 #[.slice (some ⟨B,o,none⟩) l.length f] w λe r=>∃s,e=.returned s/\w.gb r none/\qg w.heap.size r.heap.size r s l:=by
 have⟨D,q,k,h,g⟩:=qjx Tp.info3p;by_cases F:l=[]
 ·subst F;show qis Ya 84 #[.slice (some ⟨B,o,none⟩) 0 f] w _;clear y v I;go_enter Tp.x84,qq4;go_wp2_with (at_builtin;(refine wpList_append_own _ rfl _ _ 29 rfl w.heap.size 3 D _ 1 8 Tp.und29' q k h g rfl (by decide) (.slice (some w.heap.size) 0 0) 0 [] rfl ⟨rfl,.inr ⟨_,0,#[],rfl,qhv _,qhA _ _,qhv _,by decide,rfl,rfl⟩⟩ ⟨B,o,none⟩ 0 f [] rfl rfl (by intro j u b;simp at b) (by intro u b;simp at b) (by decide) (by omega) (by simp) ?_);intro s Q d a _;have A:=qhp d;have C:=qhp a;clear d a);go_ret;refine⟨_,rfl,(qhq _ _ none).andThen C (λj e=>.inl ?_),Kn (n:=0) (by simpa using A.out) (by simp) (qhv _)⟩;simp[qix] at e;omega
 have p:0<l.length:=qm6.2 F;have O:=qhp (show ∀j u,(l.map (qid .i64))[j]?=some u->z[o+j]?=some u from λj u b=>by
  rw[qjE] at b;cases hj:l[j]? with
  | none=>rw[hj] at b;cases b
  | some x=>
   rw[hj] at b;cases b;have t:=(qi3.1 hj).1;have:=v j t;rw[hj] at this;exact this)
 have P:=qhp y;clear v y;go_enter Tp.x84,qq4;go_wp2_with (at_builtin;(refine qpi _ (by rfl) _ _ _ (by rfl) w.heap.size 3 D _ 1 8 Tp.und29' q k h g rfl (by omega) (.slice (some w.heap.size) 0 0) 0 [] (by rfl) ⟨by simp,.inr ⟨w.heap.size,0,#[],rfl,by omega,qhA w _,by omega,by unfold qlg;omega,by simp,by simp⟩⟩ ⟨B,o,none⟩ l.length f (l.map (qid .i64)) (by rfl) (by simp) (λj u b=>kf (q8 (qq P) (O j u b))) (by intro u b;simp at b;obtain⟨x,_,rfl⟩:=b;rfl) p (by unfold qlg;omega) (by omega) (by simp) (w.heap.size+1) (by simp) ?_);intro S G R c a M L;have C:=qhp a;have A:=qhp c;clear a c);go_ret;refine⟨_,rfl,(qhq _ _ none).andThen C (λj e=>.inl ?_),Kn (n:=0+l.length) (by simpa using A.out) (by omega) (qhv _)⟩;simp[qix] at e;omega
def zr(s:List Int):List Int:=s.takeWhile λy=>y != -1
def q90{s:List Int}(h:s.length=5):∃a b c d e,s=[a,b,c,d,e]:=by
 rcases s with _ | ⟨k,_ | ⟨j,_ | ⟨i,_ | ⟨g,_ | ⟨f,_ | ⟨l,t⟩⟩⟩⟩⟩⟩<;>simp at h;exact⟨k,j,i,g,f,rfl⟩
def q74(s:List Int)(p:Int->Bool):s.take (s.takeWhile p).length=s.takeWhile p:=by
 induction s with
 | nil=>rfl
 | cons a t b=>
  by_cases h:p a=true
  ·rw[qnu h,qhE,List.take_succ_cons,b]
  ·rw[List.takeWhile_cons_of_neg h];rfl
def q0x(s:List Int)(p:Int->Bool):(s.takeWhile p).length<=s.length:=by
 rw[<- q74 s p,qky];omega
def qf6{s:List Int}{x:Int}(h:x∉s):s.takeWhile (λy=>y != x)=s:=by
 induction s with
 | nil=>rfl
 | cons a t b=>
  rw[qnu (by simp at h ⊢;exact λe=>h.1 e.symm),b (by simp at h;exact h.2)]
def qbs(s:List Int)(G:s.length=5)(w:qhr):qis Ya 113 #[A5 s] w λe b=>∃v,e=.returned v/\w.gb b none/\qg w.heap.size b.heap.size b v (zr s):=by
 obtain⟨j,q⟩:∃j,j=w.heap.size:=⟨_,rfl⟩;obtain⟨f,c⟩:∃f,f=w.alloc (.cells (s.map (qid .i64)).toArray 118):=⟨_,rfl⟩;have A:w.gb f none:=by rw[c];exact qhq _ _ none
 have o:f.heap[j]?=some (.cells (s.map (qid .i64)).toArray 118 (0,0)):=by rw[c,q];exact qhA _ _
 have l:∀i,i<s.length->(s.map (qid .i64)).toArray[i]?=some (.int .i64 (s[i]?.getD 0)):=λi u=>by simp[u]
 have z:∀a,f.gb a none->qis Ya 147 #[.slice (some j) 5 5,.int .i64 (-1)] a λe b=>e=.returned (.int .i64 (Ko s (-1)))/\a=b:=λa h=>by
  have:=qbA (some ⟨j,0,none⟩) 5 s (-1) a (by omega) (λ_=>⟨j,0,rfl,λi u=>q8 (bk h o) (by rw[qi6];exact l i u)⟩)
  rwa [G] at this
 obtain⟨n,x⟩:∃n,n=(zr s).length:=⟨_,rfl⟩;have S:n<=5:=by rw[x];have:=q0x s (λy=>y != -1);unfold zr;omega
 have B:∀a,f.gb a none->qis Ya 84 #[.slice (some j) n 5] a λe b=>∃H,e=.returned H/\a.gb b none/\qg a.heap.size b.heap.size b H (zr s):=λa h=>by
  rw[x];refine qcj j 0 5 118 _ (0,0) (zr s) a (bk h o) (λi u=>?_) (by omega);rw[qi6,l i (by omega)];unfold zr;rw[<- q74 s (λy=>y != -1),qk4 (by unfold zr at u;exact u)]
 have g:(Ko s (-1)=(n:Int)/\(-1:Int)∈s)\/(Ko s (-1)=-1/\n=5):=by
  by_cases hm:(-1:Int)∈s
  ·left;refine⟨?_,hm⟩;unfold Ko;rw[if_pos hm,x];rfl
  ·right;refine⟨by unfold Ko;rw[if_neg hm],?_⟩;rw[x];unfold zr;rw[qf6 hm,G]
 have⟨r,D,d,C,F⟩:=ZW z B A c q;clear z B A o c q l x;generalize Ko s (-1)=ix at g r;have L:A5 s=.agg (s.map (qid .i64)).toArray:=rfl;rw[L];clear L;obtain⟨Q,P,O,N,M,rfl⟩:=q90 G;rcases g with⟨rfl,-⟩ | ⟨rfl,rfl⟩
 ·go_enter Tp.x113,Tryz.ntmps113;go_upto_region 1 with(fail);rw[<- F,show w.alloc (.cells #[Q,P,O,N,M] 118)=f from C.symm];have T:(0:Int)<=(n:Int):=by omega
  have I:(n:Int)<=5:=by omega
  go_wp2_with (first
   | (go_at_call 147;refine(r _ (qhD _ _)).mono ?_;rintro e a ⟨rfl,rfl⟩)
   | (go_at_call 84;refine(D _ (qhD _ _)).mono ?_;rintro e R ⟨v,rfl,k,p⟩))
  go_ret;exact⟨_,rfl,d.t k,p.mono d.size (qhv _)⟩
 ·go_enter Tp.x113,Tryz.ntmps113;go_upto_region 1 with(fail);rw[<- F,show w.alloc (.cells #[Q,P,O,N,M] 118)=f from C.symm];go_wp2_with (first
   | (go_at_call 147;refine(r _ (qhD _ _)).mono ?_;rintro e a ⟨rfl,rfl⟩)
   | (go_at_call 84;refine(D _ (qhD _ _)).mono ?_;rintro e R ⟨v,rfl,k,p⟩))
  go_ret;exact⟨_,rfl,d.t k,p.mono d.size (qhv _)⟩
def zX(l:List Int):List Int:=l++qs2 (5 - l.length) (-1)
def Zf{l:List Int}(h:l.length<=5):(zX l).length=5:=by simp[zX];omega
def JA(lo hi:Nat)(v:qhu)(l:List Int)(w:qhr)(hI:qg lo hi w v l)(hl:l.length<=5):qis Ya 112 #[v] w λe w'=>e=.returned (A5 (zX l))/\w.gb w' none:=by
 obtain⟨b,c,rfl,d8,hc⟩:=hI.cell;have HC:=qhp hc;have F:(Ya.info? 3).map (·.size)=some 1:=by kernel_rfl
 obtain⟨R,O⟩:∃R,R=w.heap.size:=⟨_,rfl⟩;clear hc hI;go_enter Tp.x112,Tryz.ntmps112;go_upto_region 2 with(fail);obtain⟨r,n⟩:∃r,r=w.alloc (.cells #[.int .i64 0,.int .i64 0,.int .i64 0,.int .i64 0,.int .i64 0] 118):=⟨_,rfl⟩;obtain⟨g,i⟩:∃g,g=r.alloc (.cells #[.int .i64 (-1),.int .i64 (-1),.int .i64 (-1),.int .i64 (-1),.int .i64 (-1)] 118):=⟨_,rfl⟩;rw[<- O,show(w.alloc (.cells #[.int .i64 0,.int .i64 0,.int .i64 0,.int .i64 0,.int .i64 0] 118)).alloc (.cells #[.int .i64 (-1),.int .i64 (-1),.int .i64 (-1),.int .i64 (-1),.int .i64 (-1)] 118)=g by rw[i,n]];have y:r.heap.size=R+1:=by rw[n,qhH,O]
 have G:g.heap.size=R+2:=by rw[i,qhH,y]
 have M:w.gb r none:=by rw[n];exact qhq _ _ none
 have z:r.gb g none:=by rw[i];exact qhq _ _ none
 have I:r.heap[R]?=some (.cells #[.int .i64 0,.int .i64 0,.int .i64 0,.int .i64 0,.int .i64 0] 118 (0,0)):=by rw[n,O];exact qhA _ _
 have N:g.heap[R+1]?=some (.cells ([.int .i64 (-1),.int .i64 (-1),.int .i64 (-1),.int .i64 (-1),.int .i64 (-1)]:List qhu).toArray 118 (0,0)):=by rw[i,<- y];exact qhA _ _
 have H:=bk z I;have⟨C,Q⟩:=qE N H;have f:=qhp (M.t z);have⟨e8,HR⟩:=qE G O;clear n i y M z I N H G O;have T:=Q.out;obtain⟨D,e6,d,p⟩:∃D,(qpo #[29,29] 3 #[.slice (some (R+1:Nat)) 5 5,.slice b l.length c]).run Ya g=.ok (goInt l.length) D/\D.heap[R+1]?=some (.cells ((zX l).map (qid .i64)).toArray 118 (0,0))/\Below (R+1) g D:=by
  by_cases h0:l=[]
  ·subst h0;exact⟨g,run_copy_none (P:=Ya) g 29 29 3 3 _ _ 5 5 0 c Tp.und29' F rfl,by rw[C];rfl,qns _ _⟩
  ·obtain⟨B,o,rfl,-,e7,-,A⟩:=HC.out h0;have Z:=run_copy_row (P:=Ya) g 29 29 3 3 (R+1) 0 5 5 ⟨B,o,none⟩ l.length c _ 118 (l.map (qid .i64)) Tp.und29' F C (by rw[qkk];show l.length=min l.length 5;omega) (λj v L=>by
    rw[qjE] at L;cases hx:l[j]? with
    | none=>rw[hx] at L;cases L
    | some x=>
     rw[hx] at L;cases L;have h1:=A j (qi3.1 hx).1;rw[hx] at h1;exact kf (f.cl h1)) (by simp;omega) (by intro u Y;simp at Y;obtain⟨x,_,rfl⟩:=Y;rfl)
   rw[qkk] at Z;refine⟨_,Z,?_,below_setRow (qns _ _) (qhv _) _⟩;rw[setRow_heap g (R+1) _ _ 118 _ C];unfold zX;have:∀k,k<=5->([.int .i64 (-1),.int .i64 (-1),.int .i64 (-1),.int .i64 (-1),.int .i64 (-1)]:List qhu).drop k=(qs2 (5 - k) (-1)).map (qid .i64):=by
    intro k hk;obtain rfl | rfl | rfl | rfl | rfl | rfl:k=0\/k=1\/k=2\/k=3\/k=4\/k=5:=by omega
    all_goals rfl
   simp[this _ hl]
 have⟨a0,a1,a2,a3,a4,W⟩:=q90 (Zf hl);rw[W] at d;have E5:=qhp W;have a:=(p.block R (by omega)).t Q;have c0:=q8 d (o:=0) rfl;have c1:=q8 d (o:=1) rfl;have c2:=q8 d (o:=2) rfl;have c3:=q8 d (o:=3) rfl;have c4:=q8 d (o:=4) rfl;have d0:=q8 a (o:=0) rfl;have d1:=q8 a (o:=1) rfl;have d2:=q8 a (o:=2) rfl;have d3:=q8 a (o:=3) rfl;have d4:=q8 a (o:=4) rfl;have z0:=qn a (o:=0);have z1:=qn a (o:=1);have z2:=qn a (o:=2);have z3:=qn a (o:=3);have z4:=qn a (o:=4);have⟨X,q⟩:=qE a p;clear a p W T;go_wp2;obtain⟨S,s⟩:∃S,S=((((D.setCell R (.int .i64 a0)).setCell ⟨R,1,none⟩ (.int .i64 a1)).setCell ⟨R,2,none⟩ (.int .i64 a2)).setCell ⟨R,3,none⟩ (.int .i64 a3)).setCell ⟨R,4,none⟩ (.int .i64 a4):=⟨_,rfl⟩;rw[<- s];have hrf:S.heap[R]?=some (.cells #[a0,a1,a2,a3,a4] 118 (0,0)):=by
  rw[s,qi (qi (qi (qi (qi X))))];rfl
 have V:w.gb D none:=⟨q.os.trans f.os,q.tape.trans f.tape,q.output.trans f.output,qhB f.size q.size,λk hk _=>(q.block k (by have:=HR.out;omega)).t (f.block k hk (by simp))⟩;have U:w.gb S none:=by
  rw[s];have h:=HR.out;exact xW (xW (xW (xW (xW V (qh _ _ _ _) (by omega)) (qh _ _ _ _) (by omega)) (qh _ _ _ _) (by omega)) (qh _ _ _ _) (by omega)) (qh _ _ _ _) (by omega)
 have e0:=q8 hrf (o:=0) rfl;have e1:=q8 hrf (o:=1) rfl;have e2:=q8 hrf (o:=2) rfl;have e3:=q8 hrf (o:=3) rfl;have e4:=q8 hrf (o:=4) rfl;refine qka (v:=A5 (zX l)) ?_ rfl ⟨rfl,U⟩;rw[E5];simp[qke,Tryz.results112,go_sem,qiq,hrf,A5]
end
section
open Go.RowKit
structure xh where
 Bl:Nat
 By:Nat
 Bn:Nat
 Bu:Nat
 Bg:Nat
 Bp:Nat
 n1:Nat
 l:Nat
 ws:List Int
 lb:Option qiG
 lc:Nat
 J:List (List Int × qhu)->(Nat->Prop)->qhr->Prop
 Jx:List (List Int × qhu)->(Nat->Prop)->qhr->Prop
 T:List (List Int)
def Pfx(X:xh)(pre:List (List Int × qhu))(L:List (List Int)):Prop:=∃t,X.T=pre.map qld++(L++t)
def xpI(x:List Int × qhu)(A:qhr):Prop:=qg 0 A.heap.size A x.2 x.1
def xpO(a:List Int)(x:List Int × qhu)(A:qhr):Prop:=xpI x A/\x.1.length=a.length/\x.1.Nodup/\(∀y∈x.1,y∈a)/\(x.1≠[]\/x.2=.slice none 0 0)
structure Y0(X:xh):Prop where
 hlt:∀s G A,X.J s G A->∀k,G k->k<A.heap.size
 bl:X.Bl<X.n1
 b1:X.n1<=X.By
 b2:X.By<X.Bn
 b3:X.Bn<X.Bu
 b4:X.Bu<X.Bg
 b5:X.Bg<X.Bp
 hJ:∀s G A C,X.J s G A->Stp X.n1 X.Bl G A C->X.J s G C
 hJx:∀s G A C,X.Jx s G A->Stp X.n1 X.Bl G A C->X.Jx s G C
 five:∀x∈X.ws,0<=x/\x<5
 nd:X.ws.Nodup
 len:X.ws.length<=5
 hY:∀m pre G x A,X.J pre G A->xpO X.ws x A->Pfx X pre [x.1]->YieldAt Fence.wide m Ya X.l #[x.2] A λe C=>
   ∃G',(e=.returned (.bool true)/\X.J (pre++[x]) G' C/\Bod X.n1 X.Bl G G' A C)\/(e=.returned (.bool false)/\X.Jx (pre++[x]) G' C/\Bod X.n1 X.Bl G G' A C)
def ptA(b:Nat):qhu:=.pointer (some b)
structure It3(X:xh)(p:List Int)(G:Nat->Prop)(W:qhr)(lb:Option qiG)(lc:Nat)(nv:qhu):Prop where
 ls:W.heap[X.Bl]?=some (.cells #[.slice lb X.ws.length lc] 29 (0,0))
 li:qg X.n1 W.heap.size W (.slice lb X.ws.length lc) X.ws
 lf:∀B o,lb=some ⟨B,o,none⟩->X.ws≠[]->¬ G B
 yl:W.heap[X.By]?=some (.cells #[.func (.yield X.l) #[] #[]] 51 (0,0))
 us:W.heap[X.Bu]?=some (.cells #[.int .u8 (zj p:Nat)] 130 (0,0))
 gr:W.heap[X.Bg]?=some (.cells #[.func (.func 154) #[] #[ptA X.Bn,ptA X.Bl,ptA X.By,ptA X.Bu,ptA X.Bp]] 31 (0,0))
 pu:W.heap[X.Bp]?=some (.cells #[.func (.func 150) #[] #[ptA X.Bn,ptA X.Bu,ptA X.Bg]] 82 (0,0))
 nw:W.heap[X.Bn]?=some (.cells #[nv] 29 (0,0))
 no:W.ownsRow X.n1 3 1 nv p.length (p.map (qid .i64))
 nr:∀g,nv.ownBlock=some g->¬ G g/\∀B o,lb=some ⟨B,o,none⟩->X.ws≠[]->B≠g
 nn:p=[]->X.ws=[]->nv=.slice none 0 0
 nf:¬ G X.Bl/\¬ G X.By/\¬ G X.Bn/\¬ G X.Bu/\¬ G X.Bg/\¬ G X.Bp
def q36(X:xh)(p:List Int)(G:Nat->Prop)(W:qhr):Prop:=∃a,It3 X p G W X.lb X.lc a
def zA(a:List Int):Nat->List Int->List (List Int)
 | 0,p=>[p]
 | m+1,p=>a.flatMap λn=>if n∈p then[] else zA a m (p++[n])
def qcB(X:xh)(W:qhr)(k:Nat):Prop:=∃v a b,W.heap[X.Bn]?=some (.cells #[v] a b)/\v.ownBlock=some k
structure ItR(X:xh)(G G':Nat->Prop)(A C:qhr):Prop where
 tape:C.tape=A.tape
 size:A.heap.size<=C.heap.size
 keep:∀k,k<A.heap.size->(X.n1<=k\/k=X.Bl)->¬ G k->k≠X.Bn->k≠X.Bu->¬ qcB X A k->C.heap[k]?=A.heap[k]?
 fp:∀k,G' k->G k\/A.heap.size<=k
 row:∀k,qcB X C k->qcB X A k\/A.heap.size<=k
def ItR.refl(X:xh)(G:Nat->Prop)(A:qhr):ItR X G G A A:=⟨rfl,qhv _,λ_ _ _ _ _ _ _=>rfl,λ_ h=>.inl h,λ_ h=>.inl h⟩
def ItR.trans{X:xh}{G n c:Nat->Prop}{A C E:qhr}(h:ItR X G n A C)(k:ItR X n c C E):ItR X G c A E :=
 ⟨k.tape.trans h.tape,qhB h.size k.size,λj a d f l i g=>(k.keep j (qi0 a h.size) d (λe=>(h.fp j e).elim f (by omega)) l i (λe=>(h.row j e).elim g (by omega))).t (h.keep j a d f l i g),
  λj a=>(k.fp j a).elim (h.fp j) (λe=>.inr (qhB h.size e)),λj a=>(k.row j a).elim (h.row j) (λe=>.inr (qhB h.size e))⟩
def RgB(X:xh)(p:List Int)(L:List (List Int))(pre:List (List Int × qhu))(G:Nat->Prop)(W:qhr)(b:Bool)(c:qhr):Prop :=
 ∃d,q36 X p d c/\ItR X G d W c/\(if b=true then ∃a,a.map qld=L/\X.J (pre++a) d c else ∃a t,L=a.map qld++t/\X.Jx (pre++a) d c)
def Rg(X:xh)(p:List Int)(L:List (List Int))(pre:List (List Int × qhu))(G:Nat->Prop)(W:qhr)(e:Ending)(a:qhr):Prop:=∃b,e=.returned (.bool b)/\RgB X p L pre G W b a
def qA{w:qhr}{k:Nat}{o:Obj}(h:w.heap[k]?=some o):k<w.heap.size:=(qhs.1 h).1
def ku{w:qhr}{b n:Nat}{v:qhu}{d:List qhu}(h:w.ownsRow b 3 1 v n d){g:Nat}(c:v.ownBlock=some g):b<=g/\∃j,w.heap[g]?=some (.cells j 3 (0,0)):=by
 rcases h.2 with⟨rfl,_⟩ | ⟨f,k,i,rfl,e,a,_⟩
 ·simp[qix] at c
 ·obtain rfl:f=g:=by simpa[qix] using c
  exact⟨e,_,a⟩
def Jp{d:Nat}{A C:qhr}{b:Option qiG}{n f:Nat}{l:List Int}(h:qg d A.heap.size A (.slice b n f) l)(v:A.heap.size<=C.heap.size)(k:∀B o,b=some ⟨B,o,none⟩->l≠[]->C.heap[B]?=A.heap[B]?):qg d C.heap.size C (.slice b n f) l:=by
 obtain⟨base,c,e,j,i⟩:=h;refine⟨base,c,e,j,λa=>?_⟩;have⟨B,o,u,p,g,s,w,r,q⟩:=i a;cases e;exact⟨B,o,u,p,g,s,by omega,(k B o g a).t r,q⟩
def K3{e:Nat}{A C:qhr}{v:qhu}{n:Nat}{d:List qhu}(h:A.ownsRow e 3 1 v n d)(i:∀g,v.ownBlock=some g->C.heap[g]?=A.heap[g]?):C.ownsRow e 3 1 v n d:=by
 obtain⟨l,a⟩:=h;refine⟨l,?_⟩;rcases a with a | ⟨g,c,b,rfl,k,j,f⟩
 ·exact .inl a
 ·exact .inr ⟨g,c,b,rfl,k,(i g (by simp[qix])).t j,f⟩
def Kg{X:xh}{p:List Int}{G:Nat->Prop}{W:qhr}{d:Option qiG}{i:Nat}{g:qhu}(h:It3 X p G W d i g){B o:Nat}(e:d=some ⟨B,o,none⟩)(a:X.ws≠[]):X.n1<=B/\B<W.heap.size/\∃c b,W.heap[B]?=some (.cells c 3 b):=by
 have⟨base,r,q,t,j⟩:=h.li;cases q;have⟨v,s,c,b,f,n,l,k,u⟩:=j a;rw[e] at f;cases f;exact⟨n,l,c,b,k⟩
def It3.body{X:xh}(O:Y0 X){p:List Int}{G j:Nat->Prop}{A C:qhr}{s:Option qiG}{r:Nat}{q:qhu}(h:It3 X p G A s r q)(b:Bod X.n1 X.Bl G j A C):It3 X p j C s r q/\ItR X G j A C:=by
 have I:=O.b1;have S:=O.b2;have R:=O.b3;have Q:=O.b4;have P:=O.b5;have a:∀k,k<A.heap.size->¬ G k->¬ j k:=λk i l e=>(b.fp k e).elim l (by omega);have D:=b.keep _ (qA h.ls) (.inr rfl) h.nf.1;have x:=b.keep _ (qA h.yl) (.inl I) h.nf.2.1;have n:=b.keep _ (qA h.nw) (.inl (by omega)) h.nf.2.2.1;have y:=b.keep _ (qA h.us) (.inl (by omega)) h.nf.2.2.2.1;have F:=b.keep _ (qA h.gr) (.inl (by omega)) h.nf.2.2.2.2.1;have z:=b.keep _ (qA h.pu) (.inl (by omega)) h.nf.2.2.2.2.2;refine⟨⟨D.trans h.ls,Jp h.li b.size λB o e c=>?_,λB o e c=>?_,x.t h.yl,y.t h.us,F.t h.gr,z.t h.pu,n.t h.nw,K3 h.no λg e=>?_,λg e=>⟨?_,(h.nr g e).2⟩,h.nn,
  a _ (qA h.ls) h.nf.1,a _ (qA h.yl) h.nf.2.1,a _ (qA h.nw) h.nf.2.2.1,a _ (qA h.us) h.nf.2.2.2.1,a _ (qA h.gr) h.nf.2.2.2.2.1,a _ (qA h.pu) h.nf.2.2.2.2.2⟩,
  b.tape,b.size,λk i H l _ _ _=>b.keep k i H l,b.fp,λk i=>?_⟩
 ·have⟨f,d,_⟩:=Kg h e c;exact b.keep B d (.inl f) (h.lf B o e c)
 ·have⟨f,d,_⟩:=Kg h e c;exact a B d (h.lf B o e c)
 ·have⟨f,N,d⟩:=ku h.no e;exact b.keep g (qA d) (.inl f) (h.nr g e).1
 ·have⟨f,N,d⟩:=ku h.no e;exact a g (qA d) (h.nr g e).1
 ·obtain⟨v,w,L,u,M⟩:=i;rw[n] at u;exact .inl ⟨v,w,L,u,M⟩
def It3.push{X:xh}(O:Y0 X){p:List Int}{G:Nat->Prop}{A E C:qhr}{W:Option qiG}{V:Nat}{r:qhu}(h:It3 X p G A W V r)(F:∀k,G k->k<A.heap.size){n:Int}{g' cap:Nat}(b:A.gb E r.ownBlock)(j:E.ownsRow X.n1 3 1 (.slice (some g') (p.length+1) cap) (p.length+1) (p.map (qid .i64)++[.int .i64 n]))(f:r.ownBlock=some g'\/A.heap.size<=g')(Q:C.os=E.os)(y:C.tape=E.tape)(z:C.output=E.output)(M:C.heap=((E.setCell X.Bn (.slice (some g') (p.length+1) cap)).setCell X.Bu (.int .u8 (zj (p++[n]):Nat))).heap) :It3 X (p++[n]) G C W V (.slice (some g') (p.length+1) cap)/\Stp X.n1 X.Bl G A C/\ItR X G G A C/\∀k,k≠X.Bn->k≠X.Bu->C.heap[k]?=E.heap[k]?:=by
 have h1:=O.b1;have h2:=O.b2;have h3:=O.b3;have h4:=O.b4;have h5:=O.b5;have h0:=O.bl;have d:∀{k:Nat} {o:Obj},A.heap[k]?=some o->(∀c,o≠.cells c 3 (0,0))->some k≠r.ownBlock:=λ{k o} i R e=>by
  have⟨_,c,s⟩:=ku h.no e.symm;rw[i] at s;exact R c (qkD s)
 have el:=(b.block _ (qA h.ls) (d h.ls (λc e=>by cases e))).t h.ls;have ey:=(b.block _ (qA h.yl) (d h.yl (λc e=>by cases e))).t h.yl;have en:=(b.block _ (qA h.nw) (d h.nw (λc e=>by cases e))).t h.nw;have Z:=(b.block _ (qA h.us) (d h.us (λc e=>by cases e))).t h.us;have eg:=(b.block _ (qA h.gr) (d h.gr (λc e=>by cases e))).t h.gr;have ep:=(b.block _ (qA h.pu) (d h.pu (λc e=>by cases e))).t h.pu;have a:∀k,k≠X.Bn->k≠X.Bu->C.heap[k]?=E.heap[k]?:=λk w u=>by
  rw[M];exact(qj4 _ _ _ k (λe=>u e)).t (qj4 _ _ _ k (λe=>w e))
 have cn:C.heap[X.Bn]?=some (.cells #[.slice (some g') (p.length+1) cap] 29 (0,0)):=by
  rw[M,qj4 _ _ _ X.Bn (λe=>by have U:X.Bn=X.Bu:=e;omega),qi en];rfl
 have T:(E.setCell X.Bn (.slice (some g') (p.length+1) cap)).heap[X.Bu]?=some (.cells #[.int .u8 (zj p:Nat)] 130 (0,0)):=(qj4 _ _ _ X.Bu (λe=>by have U:X.Bu=X.Bn:=e;omega)).t Z;have cu:C.heap[X.Bu]?=some (.cells #[.int .u8 (zj (p++[n]):Nat)] 130 (0,0)):=by
  rw[M,qi T];rfl
 have q:C.heap.size=E.heap.size:=by rw[M];simp[qk2]
 have P:Stp X.n1 X.Bl G A C:=⟨Q.trans b.os,y.t b.tape,z.t b.output,by rw[q];exact b.size,λk i l=>by
  have w:k≠X.Bn:=by rintro rfl;exact l.elim (λl=>by omega) h.nf.2.2.1
  have u:k≠X.Bu:=by rintro rfl;exact l.elim (λl=>by omega) h.nf.2.2.2.1
  rw[a k w u];refine b.block k i λe=>?_;have⟨b1,_⟩:=ku h.no e.symm;rcases l with l | l
  ·omega
  ·exact(h.nr k e.symm).1 l⟩
 have I:X.n1<=g'/\∃c,E.heap[g']?=some (.cells c 3 (0,0)):=ku j (by simp[qix]);obtain⟨Y,b9,H⟩:=I;have D:∀{k:Nat} {c:Array qhu} {L:qi4},E.heap[k]?=some (.cells c L (0,0))->L≠3->g'≠k:=λ{k c L} i ht e=>by
  rw[<- e,H] at i;cases i;exact ht rfl
 have gn:=D en (by decide);have gu:=D Z (by decide);refine⟨⟨(a _ (by omega) (by omega)).t el,Jp h.li (by rw[q];exact b.size) λB o e x=>?_,h.lf,(a _ (by omega) (by omega)).t ey,cu,(a _ (by omega) (by omega)).t eg,(a _ (by omega) (by omega)).t ep,cn,?_,λg e=>?_,λe=>by simp at e,
  h.nf⟩,P,
  ⟨y.t b.tape,by rw[q];exact b.size,λk i hn S w u k3=>?_,λk i=>.inl i,λk i=>?_⟩,a⟩
 ·have⟨b1,b2,c,fr,N⟩:=Kg h e x;rw[a B (λe=>?_) (λe=>?_)]
  ·exact b.block B b2 λU=>(h.nr B U.symm).2 B o e x rfl
  ·subst e;rw[h.nw] at N;cases N
  ·subst e;rw[h.us] at N;cases N
 ·rw[qj1,qk1];exact K3 j λg e=>a g (by
   obtain rfl:g'=g:=by simpa[qix] using e
   exact gn) (by
   obtain rfl:g'=g:=by simpa[qix] using e
   exact gu)
 ·obtain rfl:g'=g:=by simpa[qix] using e
  refine⟨λS=>?_,λB o e x s=>?_⟩
  ·rcases f with f | f
   ·exact(h.nr _ f).1 S
   ·exact absurd (F _ S) (by omega)
  ·have⟨b1,b2,_⟩:=Kg h e x;rcases f with f | f
   ·exact(h.nr _ f).2 B o e x s
   ·omega
 ·rw[a k w u];exact b.block k i λe=>k3 ⟨r,_,_,h.nw,e.symm⟩
 ·obtain⟨v,L,fr,e1,s⟩:=i;rw[cn] at e1;cases e1;obtain rfl:g'=k:=by simpa[qix] using s
  rcases f with f | f
  ·exact .inl ⟨r,_,_,h.nw,f⟩
  ·exact .inr f
def q42{w:qhr}{b k:Nat}{v:qhu}{c:List qhu}{y:qhu}(h:w.ownsRow b 3 1 v (k+1) (c++[y])):∃g a,v=.slice (some ⟨g,0,none⟩) (k+1) a/\k+1<=a/\w.ownsRow b 3 1 (.slice (some ⟨g,0,none⟩) k a) k c:=by
 obtain⟨p,o⟩:=h;rcases o with⟨_,q⟩ | ⟨g,a,d,rfl,n,j,l,hm,f,e⟩
 ·omega
 ·have i:c.length=k:=by simp at p;omega
  refine⟨g,a,rfl,l,by simpa using i,.inr ⟨g,a,d,rfl,n,j,by omega,hm,f,?_⟩⟩;have:=congrArg (List.take (k*1)) e;rw[List.take_take,qq8 (by omega)] at this;rw[this,List.take_left' (by omega)]
def It3.pop{X:xh}(O:Y0 X)(D:X.ws≠[]){p:List Int}{G:Nat->Prop}{A C:qhr}{Q:Option qiG}{P:Nat}{g b:Nat}{n:Int}(h:It3 X (p++[n]) G A Q P (.slice (some g) (p.length+1) b))(Z:Popped X.Bn X.Bu (some ⟨g,0,none⟩) p.length b (zj p) A C) :It3 X p G C Q P (.slice (some g) p.length b)/\Stp X.n1 X.Bl G A C/\ItR X G G A C:=by
 obtain⟨H,j,l,s⟩:=Z;have h1:=O.b1;have h2:=O.b2;have h3:=O.b3;have h4:=O.b4;have h5:=O.b5;have h0:=O.bl;have a:∀k,k≠X.Bn->k≠X.Bu->C.heap[k]?=A.heap[k]?:=λk z x=>by
  rw[s];exact(qj4 _ _ _ k (λe=>x e)).t (qj4 _ _ _ k (λe=>z e))
 have S:C.heap[X.Bn]?=some (.cells #[.slice (some g) p.length b] 29 (0,0)):=by
  rw[s,qj4 _ _ _ X.Bn (λe=>by have e':X.Bn=X.Bu:=e;omega),qi h.nw];rfl
 have M:(A.setCell X.Bn (.slice (some g) p.length b)).heap[X.Bu]?=some (.cells #[.int .u8 (zj (p++[n]):Nat)] 130 (0,0)):=(qj4 _ _ _ X.Bu (λe=>by have e':X.Bu=X.Bn:=e;omega)).t h.us;have cu:C.heap[X.Bu]?=some (.cells #[.int .u8 (zj p:Nat)] 130 (0,0)):=by
  rw[s,qi M];rfl
 have i:C.heap.size=A.heap.size:=by rw[s];simp[qk2]
 have F:Stp X.n1 X.Bl G A C:=⟨H,j,l,by rw[i];exact qhv _,λk d f=>a k (λe=>by
  subst e;rcases f with f | f
  ·omega
  ·exact h.nf.2.2.1 f) (λe=>by
  subst e;rcases f with f | f
  ·omega
  ·exact h.nf.2.2.2.1 f)⟩
 have c:A.ownsRow X.n1 3 1 (.slice (some g) p.length b) p.length (p.map (qid .i64)):=by
  have I:=h.no;rw[qj1,qk1] at I;have⟨u,T,e,_,Y⟩:=q42 (y:=.int .i64 n) I;cases e;exact Y
 have⟨_,a6,L⟩:=ku c (g:=g) (by simp[qix]);have q:∀{k:Nat} {N:Array qhu} {r:qi4},A.heap[k]?=some (.cells N r (0,0))->r≠3->g≠k:=λ{k N r} d V e=>by
  rw[<- e,L] at d;cases d;exact V rfl
 have W:=h.nr g (by simp[qix]);refine⟨⟨(a _ (by omega) (by omega)).t h.ls,Jp h.li (by rw[i];exact qhv _) λB o e U=>?_,h.lf,(a _ (by omega) (by omega)).t h.yl,cu,(a _ (by omega) (by omega)).t h.gr,(a _ (by omega) (by omega)).t h.pu,S,K3 c λu e=>?_,λu e=>?_,λ_ e=>absurd e D,
  h.nf⟩,F,
  ⟨j,by rw[i];exact qhv _,λk d I hf z x k3=>a k z x,λk d=>.inl d,λk d=>?_⟩⟩
 ·have⟨b1,b2,N,fr,w⟩:=Kg h e U;exact a B (λe=>by subst e;rw[h.nw] at w;cases w) (λe=>by subst e;rw[h.us] at w;cases w)
 ·obtain rfl:g=u:=by simpa[qix] using e
  exact a g (q h.nw (by decide)) (q h.us (by decide))
 ·obtain rfl:g=u:=by simpa[qix] using e
  exact W
 ·obtain⟨v,r,fr,R,e2⟩:=d;rw[S] at R;cases R;exact .inl ⟨_,_,_,h.nw,e2⟩
def q1l(p:List Int)(x:Int):zj (p++[x])=zj p ||| 2 ^ x.toNat:=by simp[zj]
def qfl(X:xh)(O:Y0 X)(L:List (List Int))(p:List Int)(n:Nat)(hn:(n:Int)∈X.ws)(m9:(n:Int)∉p)(hp:∀x∈p,x∈X.ws)(s4:p.length+1<=5)(V:∀pre G A,X.J pre G A->Pfx X pre L->q36 X (p++[(n:Int)]) G A->qis Ya 154 #[ptA X.Bn,ptA X.Bl,ptA X.By,ptA X.Bu,ptA X.Bp] A (Rg X (p++[(n:Int)]) L pre G A)) :∀pre G A,X.J pre G A->Pfx X pre L->q36 X p G A->qis Ya 150 #[n,ptA X.Bn,ptA X.Bu,ptA X.Bg] A (Rg X p L pre G A):=by
 intro pre G A hJ n7 n8;obtain⟨nv,i⟩:=n8;have⟨i0,n4,m8,m7,m6⟩:=qjx Tp.info3p;have d6:n<5:=by have:=O.five _ hn;omega
 have N:zj p<32:=xE p 5 λx hx=>by have:=O.five x (hp x hx);omega
 have e8:(zj p).testBit n=false:=by
  rw[qm2];intro h;have⟨y,hy,r9⟩:=(ZQ p n).1 h;have:=O.five y (hp y hy);obtain rfl:y=(n:Int):=by omega
  exact m9 hy
 obtain⟨D,z,B,rfl⟩:=zB i.no;have t6:=O.b1;have t5:=O.b2;have t4:=O.b3;have t3:=O.b4;have t2:=O.b5;have⟨q,d,g7,Y,g,S⟩:=zo A (.cells #[n] 3);have b9:d.heap.size=A.heap.size+1:=by rw[Y,qhH]
 have u:=bk g i.nw;have s:=bk g i.us;have c8:=bk g i.gr;have s7:X.n1<=A.heap.size:=by have:=qA i.nw;omega
 have U:∀{k:Nat} {o:Obj},A.heap[k]?=some o->(∀cs,o≠.cells cs 3 (0,0))->some k≠(qjc D z B).ownBlock:=λ{k o} hk n2 e=>by
  have⟨_,cs,r⟩:=ku i.no e.symm;rw[hk] at r;exact n2 cs (qkD r)
 have k6:=qhp (U i.nw (λcs e=>by cases e));have k5:=qhp (U i.us (λcs e=>by cases e));have k0:=qhp (show some q≠(qjc D z B).ownBlock from λe=>by
  have⟨_,cs,r⟩:=ku i.no e.symm;have:=qA r;omega)
 have c1:d.cell? X.Bn=some (.slice D z B):=q8 u rfl;have g8:d.cell? X.Bu=some (.int .u8 (zj p:Nat)):=q8 s rfl;have c3:d.cell? q=some (.int .i64 n):=q8 S rfl;have c4:d.cell? X.Bg=some (.func (.func 154) #[] #[ptA X.Bn,ptA X.Bl,ptA X.By,ptA X.Bu,ptA X.Bp]):=q8 c8 rfl;have z1:=qn (o:=0) u;have z2:=qn (o:=0) s;have d8:X.Bn<d.heap.size:=qA u;have d7:X.Bu<d.heap.size:=qA s;have p9:=qhp (i.no.kept g (by cases(qjc D z B).ownBlock<;>simp));have⟨HI,h8,q3,p7,a8⟩:=ZW i S g Y g7;obtain⟨M,hM⟩:∃M:Int,M=(zj p:Nat):=⟨_,rfl⟩;obtain⟨M2,Z⟩:∃M2:Int,(zj p ||| 2 ^ n:Nat)=M2:=⟨_,rfl⟩;have c2:d.cell? X.Bu=some (.int .u8 M):=by rw[hM];exact g8
 have⟨HM,q0⟩:=qE hM Z;have j:∀w,qis Ya 151 #[.int .u8 M,n] w λe w'=>e=.returned (.int .u8 M2)/\w=w':=λw=>by
  rw[hM,<- Z];exact Zz _ n w N d6
 have⟨p6,h9⟩:=qE j b9;have s6:X.n1<=d.heap.size:=by omega
 clear i U S g Y g7 u s c8 g8 hM Z j b9;unfold ptA at *
 go_enter_defers Tp.x150,Tryz.ntmps150;go_upto_region 1 with(fail);rw[<- a8.out,<- p7.out];refine wp_region_noPanic ?_;refine qz 7 (λw'=>w'.cell? X.Bn=some (.slice D z B)/\w'.cell? X.Bu=some (.int .u8 M)/\w'.cell? q=some (.int .i64 n)) (by kernel_rfl) (by kernel_rfl) ⟨c1,c2,c3⟩ (λhHeld=>?_);simp only[qhE,qi1,qib,qiA,qi6,qie,qif,qio,qii,qi7];refine tk 0 (h:=tk 1 (h:=tk 4 (h:=tk 5 (h:=?_))));try go_frame
 refine rdc 2 λK hK=>?_;go_simp;refine hK.out _ _ (by first | exact s5 | exact hHeld | exact⟨(qhq _ _ none).cl hHeld.1,(qhq _ _ none).cl hHeld.2.1,(qhq _ _ none).cl hHeld.2.2⟩) (λhHeld=>?_);refine rdc 3 λK hK=>?_;refine step_append_lies _ (by rfl) _ _ _ (by rfl) X.n1 3 i0 _ 1 8 Tp.und29' n4 m8 m7 m6 rfl (by omega) (.slice D z B) p.length (p.map (qid .i64)) (by rfl) (by exact p9.out.alloc _) ⟨d.heap.size,0,none⟩ 1 1 [.int .i64 n] (by rfl) (by rfl) (qje (cs:=#[n]) (t:=3) (fr:=(0,0)) (qhA d _)) (by simp[qjD]) (by omega) (by unfold qlg;omega) (by omega) (by simp;omega) (d.heap.size+1) (by simp) ?_;intro g' cap w5 l a Q r5;have c:d.gb w5 (qjc D z B).ownBlock:=((qhq d (.cells #[n] 3) none).but _).trans ⟨a.os,a.tape,a.output,a.size,a.block⟩;have s5:w5.cell? X.Bn=some (.slice D z B)/\w5.cell? X.Bu=some (.int .u8 M)/\w5.cell? q=some (.int .i64 n):=⟨c.cell c1 k6.out,c.cell c2 k5.out,c.cell c3 k0.out⟩;have l8:=(c.frozen_far _ d8 k6.out).trans z1;have l7:=(c.frozen_far _ d7 k5.out).trans z2;have⟨p8,k8,k9⟩:=ze l c Q;clear l c Q a;refine hK.out _ _ (by first | exact s5 | exact hHeld | exact⟨(qhq _ _ none).cl hHeld.1,(qhq _ _ none).cl hHeld.2.1,(qhq _ _ none).cl hHeld.2.2⟩) (λhHeld=>?_);refine rdc 6 λK hK=>?_;go_simp;go_at_call 151;refine(p6.out _).mono ?_;rintro e w2 ⟨rfl,rfl⟩;refine hK.out _ _ (by first | exact s5 | exact hHeld | exact⟨(qhq _ _ none).cl hHeld.1,(qhq _ _ none).cl hHeld.2.1,(qhq _ _ none).cl hHeld.2.2⟩) (λhHeld=>?_);try go_frame
 refine⟨by kernel_rfl,?_⟩;simp only[qig,qit];have d5:X.Bn≠X.Bu:=by omega
 have r4:X.Bu≠X.Bn:=by omega
 have m4:=s5.1;have m3:=s5.2.1;go_wp2;refine NoPanic.normal ?_;obtain⟨C,hC⟩:∃C,C=(w5.setCell X.Bn (.slice (some g') (p.length+1) cap)).setCell X.Bu (.int .u8 M2):=⟨_,rfl⟩;rw[<- hC];have⟨a6,T,e4,W⟩:=HI.out.push O (O.hlt _ _ _ hJ) (n:=(n:Int)) (g':=g') (cap:=cap) (A:=A) (E:=w5) (C:=C) ((q3.out.but _).trans k8.out) p8.out (by rcases k9.out with h | h;exact .inl h;right;have:=h9.out;omega) (by rw[hC];rfl) (by rw[hC];rfl) (by rw[hC];rfl) (by rw[hC,q1l,Int.toNat_natCast,q0.out]);have g5:=O.hJ _ _ _ _ hJ T;have e7:C.heap[q]?=some (.cells #[n] 3 (0,0)):=by
  have h1:=qA HI.out.nw;have h2:=qA HI.out.us;have h3:=a8.out;rw[W q (by omega) (by omega)];exact(k8.out.block _ (qA h8.out) k0.out).trans h8.out
 have u5:C.cell? X.Bg=some (.func (.func 154) #[] #[.pointer (some X.Bn),.pointer (some X.Bl),.pointer (some X.By),.pointer (some X.Bu),.pointer (some X.Bp)]):=q8 (o:=0) a6.gr rfl;have⟨HC,u9,k7,u7,q2,q1,g9⟩:=q6k hC W a6 T e4 g5 e7;clear hC W a6 T e4 g5 e7 m4 m3 s5 l8 l7 c1 c2 c3 c4 z1 z2 d8 d7 hHeld;go_wp2_with (go_at_call 154;refine(V pre G C q1.out n7 ⟨_,k7.out⟩).mono ?_;rintro e w6 ⟨b,rfl,hR⟩);obtain⟨G6,⟨m5,h6⟩,P,H⟩:=hR;have I:=h6.no;rw[qj1,qk1] at I;obtain⟨g6,R,e6,n6,-⟩:=q42 (y:=.int .i64 n) I;have n9:m5=.slice (some g6) (p.length+1) R:=e6;subst n9;have t8:=a8.out;have s8:=qA HI.out.nw;have s2:=qA HI.out.us;have e5:w6.heap[q]?=some (.cells #[n] 3 (0,0)):=by
  rw[P.keep q (qA g9.out) (.inl (by omega)) (λhf=>?_) (by omega) (by omega) (λhr=>?_)]
  ·exact g9.out
  ·have:=O.hlt _ _ _ hJ _ hf;omega
  ·obtain⟨v,ty,fr,e1,r⟩:=hr;rw[k7.out.nw] at e1;cases e1;obtain rfl:g'=q:=by simpa[qix] using r
   rcases k9.out with h | h
   ·have⟨_,cs,h2⟩:=ku HI.out.no h;have:=qA h2;omega
   ·have:=h9.out;omega
 refine qob (f:=152) (args:=#[.pointer (some X.Bn),.pointer (some X.Bu),.pointer (some q)]) (by simp) (by simp[go_sem]) ?_;refine(qdm X.Bn X.Bu q (some ⟨g6,0,none⟩) p.length R (zj p) n w6 d6 N e8 (by omega) n6 d5 (by omega) h6.nw (by rw[h6.us,q1l,Int.toNat_natCast]) e5 _).mono ?_;rintro e u' w7 ⟨rfl,rfl,c9⟩;have⟨h7,F,d9⟩:=h6.pop O (λe=>by rw[e] at hn;cases hn) c9;refine⟨.bool b,by rw[results_tmp (t:=5) rfl];rfl,b,rfl,G6,⟨_,h7⟩,(q2.out.trans P).trans d9,?_⟩;cases b with
 | true=>
  obtain⟨xs,e1,r⟩:=H;exact⟨xs,e1,O.hJ _ _ _ _ r F⟩
 | false=>
  obtain⟨xs,t,e1,r⟩:=H;exact⟨xs,t,e1,O.hJx _ _ _ _ r F⟩
end
section
open Go.RowKit Go.Shelf
attribute [local go_sem] Oper.semAt_some
def q7d{w:qhr}{b n:Nat}{v:qhu}{d:List qhu}(h:w.ownsRow b 3 1 v n d):∃a c,v=.slice a n c:=by
 rcases h.2 with⟨rfl,e⟩ | ⟨g,i,f,rfl,_⟩
 ·exact⟨none,0,by rw[e]⟩
 ·exact⟨_,_,rfl⟩
def It3.xp{X:xh}{p:List Int}{G:Nat->Prop}{W:qhr}{c:Option qiG}{b:Nat}{a:qhu}(h:It3 X p G W c b a)(d:p.length<=5):xpI (p,a) W:=(qg.own h.no (by omega)).mono (qiu _) (qhv _)
def q99(X:xh)(O:Y0 X)(p:List Int)(i:p.length=X.ws.length)(r:p.Nodup)(q:∀x∈p,x∈X.ws):∀pre G A,X.J pre G A->Pfx X pre (zA X.ws 0 p)->q36 X p G A->qis Ya 154 #[ptA X.Bn,ptA X.Bl,ptA X.By,ptA X.Bu,ptA X.Bp] A (Rg X p (zA X.ws 0 p) pre G A):=by
 intro pre G A hJ s t;obtain⟨H,a⟩:=t;have d:=a.xp (by have:=O.len;omega);obtain⟨g,f,rfl⟩:=q7d a.no;have N:A.cell? X.Bn=some (.slice g p.length f):=q8 a.nw rfl;have M:A.cell? X.Bl=some (.slice X.lb X.ws.length X.lc):=q8 a.ls rfl;have L:A.cell? X.By=some (.func (.yield X.l) #[] #[]):=q8 a.yl rfl;have⟨I,v,j,w,B,F⟩:=O.hY 2 pre G (p,.slice g p.length f) A hJ ⟨d,i,r,q,(qlC (p=[])).elim (λh=>.inr (a.nn h (qja (by rw[<- i,h];rfl)))) .inl⟩ s;have C:((p.length:Int) == (X.ws.length:Int))=true:=by rw[i];simp
 have y:=qhp a;dsimp only at B;clear d a i;refine(qjA (n:=3)).1 ?_;refine qpt Tp.x154 rfl trivial ?_ rfl;have D:∀k:Nat,(Fence.wide.depth.isSome=true->1<=k):=λk h=>by cases h
 unfold ptA;simp only[Tryz.ntmps154,qim,qhE,qi1,qib,qiA,qie,qif,qio,ql1,qii,qi7]
 gi_wp2
 refine F.mono ?_;rintro e P ⟨z,⟨rfl,c,b⟩ | ⟨rfl,c,b⟩⟩
 ·gi_wp2
  go_ret;have⟨u,o⟩:=y.out.body O b;exact⟨true,rfl,z,⟨_,u⟩,o,[(p,.slice g p.length f)],rfl,c⟩
 ·gi_wp2
  go_ret;have⟨u,o⟩:=y.out.body O b;exact⟨false,rfl,z,⟨_,u⟩,o,[(p,.slice g p.length f)],[],rfl,c⟩
def xz(a p:List Int)(m k:Nat)(x:Int)(h:a[k]?=some x):((a.take (k+1)).flatMap λn=>if n∈p then[] else zA a m (p++[n]))=((a.take k).flatMap λn=>if n∈p then[] else zA a m (p++[n]))++(if x∈p then[] else zA a m (p++[x])):=by
 rw[qj7,h];simp
def Ql(a p:List Int)(m k:Nat):zA a (m+1) p=((a.take k).flatMap λn=>if n∈p then[] else zA a m (p++[n]))++((a.drop k).flatMap λn=>if n∈p then[] else zA a m (p++[n])):=by
 rw[<- qp7,List.take_append_drop];rfl
def q9a(X:xh)(O:Y0 X)(m:Nat)(p:List Int)(hp:p.length+(m+1)=X.ws.length)(b0:p.Nodup)(r:∀x∈p,x∈X.ws)(ih:∀q,q.length+m=X.ws.length->q.Nodup->(∀x∈q,x∈X.ws)->∀pre G A,X.J pre G A->Pfx X pre (zA X.ws m q)->q36 X q G A->qis Ya 154 #[ptA X.Bn,ptA X.Bl,ptA X.By,ptA X.Bu,ptA X.Bp] A (Rg X q (zA X.ws m q) pre G A)) :∀pre G A,X.J pre G A->Pfx X pre (zA X.ws (m+1) p)->q36 X p G A->qis Ya 154 #[ptA X.Bn,ptA X.Bl,ptA X.By,ptA X.Bu,ptA X.Bp] A (Rg X p (zA X.ws (m+1) p) pre G A):=by
 intro pre G A hJ W c8;obtain⟨nv,Q⟩:=c8;have b7:=O.len;obtain⟨na,nc,rfl⟩:=q7d Q.no;have c1:A.cell? X.Bn=some (.slice na p.length nc):=q8 Q.nw rfl;have c2:A.cell? X.Bl=some (.slice X.lb X.ws.length X.lc):=q8 Q.ls rfl;have k7:((p.length:Int) == (X.ws.length:Int))=false:=by rw[beq_eq_false_iff_ne];omega
 have z:∀n:Nat,(n:Int)∈X.ws->¬ (n:Int)∈p->∀pre G A,X.J pre G A->Pfx X pre (zA X.ws m (p++[(n:Int)]))->q36 X p G A->qis Ya 150 #[.int .i64 n,ptA X.Bn,ptA X.Bu,ptA X.Bg] A (Rg X p (zA X.ws m (p++[(n:Int)])) pre G A):=λn hn S=>
  qfl X O _ p n hn S r (by omega) (ih _ (by simp;omega) (List.nodup_append.2 ⟨b0,by simp,λa ha b hb e=>S (by rw[ql4.1 hb] at e;exact e ▸ ha)⟩) (λx P=>by rcases qku.1 P with h | h;exact r x h;rw[ql4.1 h];exact hn))
 have a7:=qhp z;have c9:=Q;have⟨HI,HJ,HP,d9⟩:=j8 Q hJ hp W;clear W;clear Q hp ih hJ z c9;refine(qjA (n:=3)).1 ?_;refine qpt Tp.x154 rfl trivial ?_ rfl;have k9:∀k:Nat,(Fence.wide.depth.isSome=true->1<=k):=λk h=>by cases h
 unfold ptA at *
 simp only[Tryz.ntmps154,qim,qhE,qi1,qib,qiA,qie,qif,qio,ql1,qii,qi7]
 gi_wp2
 gi_loopw [18] (λiv wr=>∃k:Nat,iv=.int .i64 k/\k<=X.ws.length/\∃N,q36 X p N wr/\ItR X G N A wr/\∃j,j.map qld=((X.ws.take k).flatMap λn=>if n∈p then[] else zA X.ws m (p++[n]))/\X.J (pre++j) N wr) (λiv _=>(X.ws.length - qiF iv).toNat)
 case atStart=>exact⟨0,rfl,by omega,G,⟨_,HI.out⟩,ItR.refl _ _ _,[],by simp,by simpa using HJ.out⟩
 case round=>
  obtain⟨k,rfl,hk,N,⟨h8,Z⟩,V,j,R,Y⟩:=hrel;have⟨g,v,i,L⟩:=j8 Z V R Y;clear Z V R Y c1 c2;by_cases s:k<X.ws.length
  ·obtain⟨x,l⟩:∃x,X.ws[k]?=some x:=⟨_,qhz s⟩;have F:=qi9 l;have k6:=O.five x F;obtain⟨b1,l9,he,-,hc⟩:=g.out.li.cell;cases he;have⟨B,o,b8,l8,l7,l6,a6⟩:=hc (by intro e;rw[e] at s;simp at s);have P:=a6 k s;rw[l] at P;simp only[qhC] at P;obtain⟨n,rfl⟩:∃n:Nat,x=n:=⟨x.toNat,by omega⟩;have c3:wr.cell? X.Bu=some (.int .u8 (zj p:Nat)):=q8 g.out.us rfl;have c4:wr.cell? X.Bp=some (.func (.func 150) #[] #[.pointer (some X.Bn),.pointer (some X.Bu),.pointer (some X.Bg)]):=q8 g.out.pu rfl;have b6:n<5:=by omega
   have T:zj p<32:=xE p 5 λx P=>by have:=O.five x (r x P);omega
   have g5:(k:Int)<(X.ws.length:Int):=by omega
   have⟨u,d7⟩:=qE l F;obtain⟨M,hM⟩:∃M:Int,M=(zj p:Nat):=⟨_,rfl⟩;rw[<- hM] at c3;have D:(zj p).testBit n=decide ((n:Int)∈p):=by
    rw[Bool.eq_iff_iff,ZQ,decide_eq_true_eq];constructor
    ·rintro⟨y,hy,k5⟩;have:=O.five y (r y hy);obtain rfl:y=(n:Int):=by omega
     exact hy
    ·exact λh=>⟨n,h,by omega⟩
   have C:∀w,qis Ya 129 #[.int .u8 M,.int .i64 n] w λe w'=>e=.returned (.bool (decide ((n:Int)∈p)))/\w=w':=λw=>by
    rw[hM,<- D];exact Yt _ n w T b6
   have c:=qhp C;clear l F hc a6 hM D C;rw[b8];by_cases d:(n:Int)∈p
   ·have U:decide ((n:Int)∈p)=true:=by simpa using d
    have f:=qhp d;clear d;rw[U] at c;clear U
    gi_wp2_with (refine⟨trivial,?_⟩;gi_at_call 129;refine(qjA.2 (c.out _)).mono ?_;rintro e w2 ⟨rfl,rfl⟩)
    refine⟨λ_ h=>(by cases h),?_⟩
    gi_wp2
    go_roundw
    case rel=>exact⟨k+1,by simp,by omega,N,⟨_,g.out⟩,v.out,j,by rw[xz _ _ _ _ _ u.out,if_pos f.out,List.append_nil];exact i.out,L.out⟩
    case measure=>simp[qiF];omega
   ·have U:decide ((n:Int)∈p)=false:=by simpa using d
    have f:=qhp d;clear d;rw[U] at c;clear U;have d8:=qhp (show Pfx X (pre++j) (zA X.ws m (p++[(n:Int)])) by
     have⟨t,ht⟩:=d9.out;rw[Ql X.ws p m (k+1),xz _ _ _ _ _ u.out,if_neg f.out,<- i.out] at ht;exact⟨_,by rw[ht,qk1];simp only[qk8];rfl⟩)
    gi_wp2_with (first
     | (refine⟨trivial,?_⟩;gi_at_call 129;refine(qjA.2 (c.out _)).mono ?_;rintro e w2 ⟨rfl,rfl⟩)
     | (refine⟨trivial,?_⟩;gi_at_call 150;refine(qjA.2 (a7.out n d7.out f.out (pre++j) N _ L.out d8.out ⟨_,g.out⟩)).mono ?_;rintro e w3 ⟨b,rfl,hR⟩;cases b))
    ·obtain⟨G3,I,H,ys,t,e1,e2⟩:=hR;go_ret;refine⟨false,rfl,G3,I,v.out.trans H,j++ys,t++((X.ws.drop (k+1)).flatMap λn=>if n∈p then[] else zA X.ws m (p++[n])),?_,by simpa using e2⟩;rw[Ql X.ws p m (k+1),xz _ _ _ _ _ u.out,if_neg f.out,e1,qk1,i.out];simp
    ·obtain⟨G3,I,H,ys,e1,e2⟩:=hR;go_roundw
     case rel=>exact⟨k+1,by simp,by omega,G3,I,v.out.trans H,j++ys,by rw[xz _ _ _ _ _ u.out,if_neg f.out,qk1,i.out,e1],by simpa using e2⟩
     case measure=>simp[qiF];omega
  ·obtain rfl:k=X.ws.length:=by omega
   gi_wp2
   go_ret;exact⟨true,rfl,N,⟨_,g.out⟩,v.out,j,by rw[i.out,Ql X.ws p m X.ws.length];simp,L.out⟩
def q4r(X:xh)(O:Y0 X):∀(m:Nat) (q:List Int),q.length+m=X.ws.length->q.Nodup->(∀x∈q,x∈X.ws)->∀pre G A,X.J pre G A->Pfx X pre (zA X.ws m q)->q36 X q G A->qis Ya 154 #[ptA X.Bn,ptA X.Bl,ptA X.By,ptA X.Bu,ptA X.Bp] A (Rg X q (zA X.ws m q) pre G A)
 | 0,q,h,b,a=>q99 X O q (by omega) b a
 | m+1,q,h,b,a=>q9a X O m q h b a (q4r X O m)
end
section
open Go.RowKit Go.Shelf
def q2i{F:Fence}(a:F.depth=none)(k:Nat):F.room k:=λd h=>by rw[a] at h;cases h
def qb8{F:Fence}(g:F.depth=none){m e:Nat}{P:qhF}{l:Nat}{f:qj8}{b:Array qhu}{a d:qkh}{w:qhr}{R:Ending->qhr->Prop}(h:RoundIn F m P l f b a d w R):RoundIn F e P l f b a d w R:=⟨h.1,λc i _=>h.2 c i (q2i g _)⟩
def q9E{F:Fence}(g:F.depth=none){m:Nat}(e:Nat){P:qhF}{l:Nat}{b:Array qhu}{W:qhr}{R:Ending->qhr->Prop}(h:YieldAt F m P l b W R):YieldAt F e P l b W R:=by
 obtain⟨j,c,a,d,f,i⟩:=h;exact⟨j,c,a,d,f,qb8 g i⟩
def q6a(n:Nat)(Bl:Nat)(b:Option qiG)(c:Nat)(M ws:List Int)(hS:J2 M ws)(h5:∀x∈ws,0<=x/\x<5)(m6:ws.Nodup)(g6:ws.length<=5)(l:Nat)(J Jx:List (List Int × qhu)->(Nat->Prop)->qhr->Prop)(G0:Nat->Prop)(W:qhr)(k0:W.heap[Bl]?=some (.cells #[.slice b M.length c] 29 (0,0)))(hI:qg 0 W.heap.size W (.slice b M.length c) M)(hB:¬ G0 Bl)(hF:∀s G A,J s G A->∀k,G k->k<A.heap.size)(hJ:∀s G A C,J s G A->Stp W.heap.size Bl G A C->J s G C)(n4:∀s G A C,Jx s G A->Stp W.heap.size Bl G A C->Jx s G C)(hY:∀pre G x D,J pre G D->xpO ws x D->(∃t,zA ws ws.length []=(pre++[x]).map qld++t)->YieldAt Fence.wide n Ya l #[x.2] D λe W'=>∃G',(e=.returned (.bool true)/\J (pre++[x]) G' W'/\Bod W.heap.size Bl G G' D W')\/(e=.returned (.bool false)/\Jx (pre++[x]) G' W'/\Bod W.heap.size Bl G G' D W'))(h0:J [] G0 W) :qis Ya 149 #[.func (.yield l) #[] #[],.pointer (some Bl)] W λe W'=>(∃v,e=.returned v)/\((∃xs G,xs.map qld=zA ws ws.length []/\J xs G W')\/(∃pre G,(∃t,zA ws ws.length []=pre.map qld++t)/\Jx pre G W')):=by
 have h9:=qA k0;have⟨By,D,b8,b0,I,e7⟩:=zo W (.cells #[.func (.yield l) #[] #[]] 51);have N:D.heap.size=By+1:=by rw[b0,qhH,b8]
 have F:=bk I k0;have c1:D.cell? Bl=some (.slice b M.length c):=q8 F rfl;have z1:=qn (o:=0) F;have g5:Bl<D.heap.size:=qA F;have q0:=qhp ((hI.kept I).mono (qhv _) I.size);have⟨p5,c8,p6,q2,p4,l4⟩:=Kq b0 b8 N I e7 F;clear b0 b8 N I e7 F hI;go_enter Tp.x149,Tryz.ntmps149;go_upto_region 1 with(fail);rw[<- c8,<- p5];go_upto_region 2 with(first
  | (go_at_call 135;refine(Zd _ _ _ _).mono ?_;rintro e w2 ⟨rfl,rfl⟩)
  | (go_at_call 134;refine(hS D.heap.size (.slice b M.length c) _ (by simp) (by rw[kS];rfl) ((q0.alloc _).mono (qhv _) (by simp))).mono ?_;rintro e w2 ⟨v,rfl,b7,Q,f⟩;obtain⟨lb,lc,rfl,-,-⟩:=b7.cell;have c2:=(((qhq D (.cells #[.slice b M.length c] 29) none).t f).cl c1);have z2:=(((qhq D (.cells #[.slice b M.length c] 29) none).t f).frozen_far _ g5 (by simp)).t z1;have p9:=qhp b7;have L:=qhp ((qhq D (.cells #[.slice b M.length c] 29) none).t f);have u5:=qhp Q;clear b7 Q f))
 have s6:=qA ((bk L l4));obtain⟨d,a9⟩:∃d,d=w2.setCell Bl (.slice lb ws.length lc):=⟨_,rfl⟩;rw[<- a9];have q:=qhp a9;clear a9 c1 c2 z1 z2;have s8:∀(a:qiG) (fn:Fn) (x y:Array qhu) (m:Mode) (w:qhr),(store a (.func fn x y) m).run Ya w=stored Ya w a (.func fn x y) m:=λa fn x y m w=>run_store _ w a _ m rfl;go_upto_region 6 with(fail);obtain⟨u,i⟩:∃u,u=(((d.alloc (.cells #[.slice none 0 0] 29)).alloc (.cells #[.int .u8 0] 130)).alloc (.cells #[.nilFunc] 31)).alloc (.cells #[.func (.func 150) #[] #[.pointer (some d.heap.size),.pointer (some (d.heap.size+1:Nat)),.pointer (some (d.heap.size+1+1:Nat))]] 82):=⟨_,rfl⟩;have e8:(((d.alloc (.cells #[.slice none 0 0] 29)).alloc (.cells #[.int .u8 0] 130)).alloc (.cells #[.nilFunc] 31)).alloc (.cells #[.func (.func 150) #[] #[.pointer (some d.heap.size),.pointer (some (d.heap.size+1:Nat)),.pointer (some (d.heap.size+1+1:Nat))]] 82)=u:=i.symm;rw[e8];clear e8;obtain⟨S,j⟩:∃S,S=d.heap.size:=⟨_,rfl⟩;rw[<- j] at i ⊢;have O:d.heap.size=w2.heap.size:=by rw[q];simp[qk2]
 have q6:=L.out.size;have g7:d.heap[Bl]?=some (.cells #[.slice lb ws.length lc] 29 (0,0)):=by rw[q,qi (bk L l4)];rfl
 have e6:d.heap[By]?=some (.cells #[.func (.yield l) #[] #[]] 51 (0,0)):=by
  rw[q,qj4 _ _ _ By (λe=>by have e':By=Bl:=e;have:=c8.out;omega)];exact bk L p4
 have ha:∀(w:qhr) (o:Obj) (k:Nat) (p:Obj),w.heap[k]?=some p->(w.alloc o).heap[k]?=some p:=λw o k p h=>qq h;have k5:=j;have Y:∀(w:qhr) (o:Obj),(w.alloc o).heap.size=w.heap.size+1:=λw o=>qhH w o;have n8:u.heap[S]?=some (.cells #[.slice none 0 0] 29 (0,0)):=by rw[i,j];exact ha _ _ _ _ (ha _ _ _ _ (ha _ _ _ _ (qhA d _)))
 have u8:u.heap[S+1]?=some (.cells #[.int .u8 0] 130 (0,0)):=by
  rw[i];refine ha _ _ _ _ (ha _ _ _ _ ?_);have:=qhA (d.alloc (.cells #[.slice none 0 0] 29)) (.cells #[.int .u8 0] 130)
  rwa [Y,<- j] at this
 have g8:u.heap[S+2]?=some (.cells #[.nilFunc] 31 (0,0)):=by
  rw[i];refine ha _ _ _ _ ?_;have:=qhA ((d.alloc (.cells #[.slice none 0 0] 29)).alloc (.cells #[.int .u8 0] 130)) (.cells #[.nilFunc] 31)
  rwa [Y,Y,<- j] at this
 have p8:u.heap[S+3]?=some (.cells #[.func (.func 150) #[] #[.pointer (some S),.pointer (some (S+1:Nat)),.pointer (some (S+2:Nat))]] 82 (0,0)):=by
  rw[i];have:=qhA (((d.alloc (.cells #[.slice none 0 0] 29)).alloc (.cells #[.int .u8 0] 130)).alloc (.cells #[.nilFunc] 31)) (.cells #[.func (.func 150) #[] #[.pointer (some S),.pointer (some (S+1:Nat)),.pointer (some (S+1+1:Nat))]] 82)
  rwa [Y,Y,Y,<- j] at this
 have g9:d.gb u none:=by
  rw[i];exact(((qhq _ _ none).t (qhq _ _ none)).t (qhq _ _ none)).t (qhq _ _ none)
 have cg:u.cell? (S+1+1:Nat)=some .nilFunc:=q8 g8 rfl;have zg:u.frozen? ⟨S+1+1,0,none⟩=false:=qn g8;have⟨n3,m8,n6,n2,z,k9,p7,p3⟩:=qbB n8 u8 g8 p8 g9 j g7 e6;have k7:=qhp O;clear n8 u8 g8 p8 g9 j g7 e6 O i ha Y k5;go_upto_region 7 with(fail);obtain⟨C,V⟩:∃C,C=u.setCell (S+2:Nat) (.func (.func 154) #[] #[.pointer (some S),.pointer (some Bl),.pointer (some By),.pointer (some (S+1:Nat)),.pointer (some (S+3:Nat))]):=⟨_,rfl⟩;have eC:u.setCell (S+1+1:Nat) (.func (.func 154) #[] #[.pointer (some S),.pointer (some Bl),.pointer (some By),.pointer (some (S+1:Nat)),.pointer (some (S+1+1+1:Nat))])=C:=V.symm;rw[eC];clear eC cg zg;have H:=qh u (S+2) 0 (.func (.func 154) #[] #[.pointer (some S),.pointer (some Bl),.pointer (some By),.pointer (some (S+1:Nat)),.pointer (some (S+3:Nat))]);rw[<- V] at H;have f:C.heap[S+2]?=some (.cells #[.func (.func 154) #[] #[.pointer (some S),.pointer (some Bl),.pointer (some By),.pointer (some (S+1:Nat)),.pointer (some (S+3:Nat))]] 31 (0,0)):=by rw[V,qi n6];rfl
 have k8:∀k o,k≠S+2->u.heap[k]?=some o->C.heap[k]?=some o:=λk o hk h=>blk H (by simpa using hk) h;have k4:∀k o,d.heap[k]?=some o->C.heap[k]?=some o:=λk o h=>k8 k o (by have:=qA h;have:=k9.out;omega) (bk z h);have k6:=c8.out;have N:=p6.out;have hS:=k9.out;have m3:=k7.out;have n7:C.heap.size=u.heap.size:=by rw[V];simp[qk2]
 have m4:=z.out.size;have e9:Stp W.heap.size Bl G0 W C:=by
  have h2:=q2.out.t L;refine⟨?_,?_,?_,?_,λk hk hc=>?_⟩
  ·rw[V];exact z.os.trans (by rw[q];exact h2.os)
  ·rw[V];exact z.tape.trans (by rw[q];exact h2.tape)
  ·rw[V];exact z.output.trans (by rw[q];exact h2.output)
  ·omega
  ·have m7:k≠Bl:=by
    rintro rfl;rcases hc with hc | hc
    ·exact hc.2 rfl
    ·exact hB hc
   have e2:=h2.block k hk (by simp);have e4:d.heap[k]?=w2.heap[k]?:=by rw[q];exact qj4 _ _ _ k (λe=>m7 e)
   have e8:=z.out.block k (by omega) (by simp);rw[H.block k (by omega) (by simp;omega),e8,e4,e2]
 have r:∀k,W.heap.size<=k->¬ G0 k:=λk hk h=>by have:=hF _ _ _ h0 k h;omega
 obtain⟨X,U⟩:∃X:xh,X={ Bl,By,Bn:=S,Bu:=S+1,Bg:=S+2,Bp:=S+3,n1:=W.heap.size,l,ws,lb,lc,J,Jx,T:=zA ws ws.length [] }:=⟨_,rfl⟩;have hO:Y0 X:=by
  rw[U];exact⟨hF,h9,by show W.heap.size<=By;omega,by show By<S;omega,by show S<S+1;omega,by show S+1<S+2;omega,by show S+2<S+3;omega,hJ,n4,h5,m6,g6,λm pre G x A h1 h2 h3=>q9E rfl m (hY pre G x A h1 h2 (by obtain⟨t,ht⟩:=h3;exact⟨t,by rw[qk1,qk8];exact ht⟩))⟩
 have Z:qg W.heap.size C.heap.size C (.slice lb ws.length lc) ws:=by
  have h:=p9.out;rw[qhH] at h;have h4:=h.kept (qh w2 Bl 0 (.slice lb ws.length lc)) (λR e=>by cases e;left;omega);rw[<- q] at h4;have h8:=h4.kept z;have hc:=h8.kept H (λR e=>by cases e;right;omega);exact hc.mono (by omega) (by omega)
 have b6:It3 X [] G0 C lb lc (.slice none 0 0):=by
  rw[U];refine⟨k4 _ _ p7,Z,λB o e m5=>?_,k4 _ _ p3,k8 (S+1) _ (by omega) m8,f,k8 (S+3) _ (by omega) n2,k8 S _ (by omega) n3,qjF _ _ _ _,λg e=>by simp[qix] at e,λ_ _=>rfl,hB,r _ (by show W.heap.size<=By;omega),r _ (by show W.heap.size<=S;omega),r _ (by show W.heap.size<=S+1;omega),r _ (by show W.heap.size<=S+2;omega),r _ (by show W.heap.size<=S+3;omega)⟩;obtain⟨base,t8,e',hl,hr⟩:=Z;cases e';have⟨B',o',cs,fr,e1,e2,e3,e4,e5⟩:=hr m5;rw[e] at e1;cases e1;exact r _ e2
 have a6:=q4r X hO ws.length [] (by rw[U];simp) (by simp) (by simp) [] G0 C (by rw[U];exact hJ _ _ _ _ h0 e9) (by rw[U];exact⟨[],by simp⟩) ⟨_,by rw[U] at b6 ⊢;exact b6⟩;rw[U] at a6;have cG:C.cell? (S+1+1:Nat)=some (.func (.func 154) #[] #[.pointer (some S),.pointer (some Bl),.pointer (some By),.pointer (some (S+1:Nat)),.pointer (some (S+3:Nat))]):=q8 f rfl;have q1:=qhp a6;clear a6 b6 hO U Z r e9 n7 m4 V H f k8 k4 k6 N hS m3;go_wp2_with (go_at_call 154;refine(q1).mono ?_;rintro e w9 ⟨b',rfl,hR⟩);go_end0;refine⟨⟨_,rfl⟩,?_⟩;obtain⟨G9,-,-,P⟩:=hR;cases b' with
 | true=>
  obtain⟨xs,e1,e2⟩:=P;exact .inl ⟨xs,G9,e1,by simpa using e2⟩
 | false=>
  obtain⟨xs,t,e1,e2⟩:=P;exact .inr ⟨xs,G9,⟨t,e1⟩,by simpa using e2⟩
def Zl(b:Option qiG)(n c:Nat)(w:qhr):qis Ya 117 #[.slice b n c] w λe a=>e=.returned (.func (.func 149) #[] #[.pointer (some w.heap.size)])/\a=w.alloc (.cells #[.slice b n c] 29):=by
 go_enter Tp.x117,Tryz.ntmps117;go_wp2;go_ret;exact⟨rfl,rfl⟩
def xA(n:Nat)(g:Nat)(b:Option qiG)(c:Nat)(d a:List Int)(p:J2 d a)(u:∀x∈a,0<=x/\x<5)(h:a.Nodup)(e:a.length<=5)(w0:qhr)(f:w0.heap[g]?=some (.cells #[.slice b d.length c] 29 (0,0)))(q:qg 0 w0.heap.size w0 (.slice b d.length c) d) :qhc Fence.wide n Ya 149 #[.pointer (some g)] (λx:List Int × qhu=>#[x.2]) (xpO a) (λk=>k.map qld=zA a a.length []) (λpre=>∃t,zA a a.length []=pre.map qld++t) g w0:=λl J w y W i s r hJ j o v=>
 qjA.2 (q6a (n - 1) g b c d a p u h e l J w y W ((i.block g (qA f)).t f) ((q.kept (vX i)).mono (qhv _) i.size) s r hJ j o v)
def Ks(u r:Nat)(yv qv:qhu)(c:List Par)(a:Int)(l:List Int)(w:qhr)(X:jf u r w yv c a)(hI:qg u r w qv l)(V:r<=w.heap.size)(L:YOk c a)(C:PIn c l) :qis Ya 114 #[yv,qv] w λe v=>e=.returned (.bool (decide (qS c l<=a) && qx c (pre Par.mx c c.length) l))/\w.gb v none:=by
 obtain⟨pv,rfl,Z⟩:=X;obtain⟨F,D,rfl,c9,-⟩:=Z.cell;obtain⟨base,a7,rfl,d5,-⟩:=hI.cell;have⟨Y,q,O,H,k,P⟩:=zo w (.cells #[.slice F c.length D,a] 91);have⟨U,T⟩:=qE P k;have b6:=qhp (hI.kept k);have b0:=qhp (Z.kept k);have⟨a9,a8,y,f⟩:=j8 H O L C;have g:r<=q.heap.size:=qhB V k.size;clear k P H O hI Z L C;go_enter Tp.x114,Tryz.ntmps114;go_upto_region 1 with(fail);rw[<- a8,<- a9];have b:=qhp (qhD q none);have G:∀W,q.gb W none->jf u r W (.agg #[.slice F c.length D,a]) c a:=λW h=>⟨_,rfl,b0.kept h⟩;have M:∀W,q.gb W none->qg u r W (.slice base l.length a7) l:=λW h=>b6.kept h;have I:∀W,q.gb W none->W.cell? Y=some (.slice F c.length D)/\W.cell? ⟨Y,1,none⟩=some (.int .i64 a):=λW h=>
  ⟨q8 (bk h U) rfl,q8 (bk h U) rfl⟩
 have⟨s,A,n⟩:=ze G M I;clear G M I;have Q:=qhp (n q (qhD q none));obtain⟨gx,x⟩:∃gx,gx=pre Par.mx c c.length:=⟨_,rfl⟩;have N:∀i,0<=gx i/\gx i<=1000:=by rw[x];exact y.mx
 have⟨S,b8⟩:=qE x N;clear x N;have HC:=qhp (show q57 c a l=if qS c l<=a then 0 else 10 from rfl);by_cases d:qS c l<=a
 ·have HD:=qhp (show decide (qS c l<=a)=true by simpa using d);have B:=qhp (HC.t (if_pos d));clear d;go_region_held3 (λv=>v.cell? Y=some (.slice F c.length D)/\v.cell? ⟨Y,1,none⟩=some (.int .i64 a))
   (first | exact Q)
   (first
    | (go_at_call 133;refine(vB u r _ _ c a l _ (s _ (by first | exact b | exact b.t (qe _ _))) (A _ (by first | exact b | exact b.t (qe _ _))) (qhB g (by first | exact b.size | exact(b.t (qe _ none)).size)) y.len f.ok f.nd (λp C=>by have:=y.out.each p C;omega) f.len).mono ?_;rintro e o ⟨rfl,j⟩;rw[B];replace b:=qhp (show q.gb o none by first | exact b.t j | exact(b.t (qe _ _)).t j);replace Q:=qhp (n o b);clear j)
    | (go_at_call 92;refine(Qo u r _ c a _ (s _ (by first | exact b | exact b.t (qe _ _))) (qhB g (by first | exact b.size | exact(b.t (qe _ none)).size)) y.len).mono ?_;rintro e o ⟨rfl,j⟩;rw[<- S];replace b:=qhp (show q.gb o none by first | exact b.t j | exact(b.t (qe _ _)).t j);replace Q:=qhp (n o b);clear j)
    | (go_at_call 96;refine(kF u r _ _ c a l _ _ (s _ (by first | exact b | exact b.t (qe _ _))) (A _ (by first | exact b | exact b.t (qe _ _))) (qhB g (by first | exact b.size | exact(b.t (qe _ none)).size)) y.len f.ok (by have:=f.out.len;omega) b8).mono ?_;rintro e o ⟨rfl,j⟩;replace b:=qhp (show q.gb o none by first | exact b.t j | exact(b.t (qe _ _)).t j);replace Q:=qhp (n o b);clear j))
  all_goals
   have HV:=qhp (show qx c (pre Par.mx c c.length) l=qx c gx l by rw[S]);generalize qx c gx l=z at HV ⊢;go_wp2;go_ret;exact⟨by rw[HV,HD];rfl,T.t b⟩
 ·have HD:=qhp (show decide (qS c l<=a)=false by simpa using d);have B:=qhp (HC.t (if_neg d));clear d;refine qz 11 (λv=>v.cell? Y=some (.slice F c.length D)/\v.cell? ⟨Y,1,none⟩=some (.int .i64 a)) (by kernel_rfl) (by kernel_rfl) Q (λhHeld=>?_);simp only[qhE,qi1,qib,qiA,qi6,qie,qif,qio,qii,qi7];refine tk 0 (h:=tk 1 (h:=?_));try go_frame
  refine rdc 2 λK hK=>?_;go_simp;go_at_call 133;refine(vB u r _ _ c a l _ (s _ (b.t (qe _ _))) (A _ (b.t (qe _ _))) (qhB g (b.t (qe _ none)).size) y.len f.ok f.nd (λp C=>by have:=y.out.each p C;omega) f.len).mono ?_;rintro e o ⟨rfl,j⟩;rw[B];have R:=qhp ((b.t (qe _ _)).t j);clear j;refine hK.out _ _ (n o R) (λhHeld=>?_);refine tk 3 (h:=tk 4 (h:=tku 5 (h:=tku 6 (h:=tku 7 (h:=tku 8 (h:=tku 9 (h:=tk 10 (h:=?_))))))));try go_frame
  refine⟨by kernel_rfl,?_⟩;simp only[qig,qit];go_wp2;go_ret;exact⟨by rw[HD];rfl,T.t R⟩
def zl(a:List Par)(b:Int)(l:List Int):Bool:=decide (qS a l<=b) && qx a (pre Par.mx a a.length) l
def q2u(f c:Nat)(d qv:qhu)(b:List Par)(a:Int)(l:List Int)(w:qhr)(j:jf f c w d b a)(o:qg f c w qv l)(i:c<=w.heap.size)(g:YOk b a)(k:POk b a l) :qis Ya 114 #[d,qv] w λe n=>e=.returned (.bool (qx b (pre Par.mx b b.length) l))/\w.gb n none:=by
 have h:=Ks f c d qv b a l w j o i g k.pin
 rwa [show decide (qS b l<=a)=true by simpa using k.tall,qpu] at h
end
section
open Go.RowKit Go.Shelf
attribute [local go_sem] Oper.semAt_some
structure Frm(w3:qhr)(Bl:Nat)(W:qhr):Prop where
 os:W.os=w3.os
 tape:W.tape=w3.tape
 output:W.output=w3.output
 size:w3.heap.size<=W.heap.size
 keep:∀k,k<w3.heap.size->k≠Bl->W.heap[k]?=w3.heap[k]?
def Frm.refl(a:qhr)(b:Nat):Frm a b a:=⟨rfl,rfl,rfl,qhv _,λ_ _ _=>rfl⟩
def Frm.stp{b:qhr}{d:Nat}{G:Nat->Prop}{A C:qhr}(h:Frm b d A)(a:Stp b.heap.size d G A C):Frm b d C :=
 ⟨a.os.trans h.os,a.tape.trans h.tape,a.output.trans h.output,qhB h.size a.size,λk c e=>(a.keep k (qi0 c h.size) (.inl ⟨c,e⟩)).t (h.keep k c e)⟩
def Frm.grown{b:qhr}{d:Nat}{A C:qhr}(h:Frm b d A)(a:A.gb C none):Frm b d C :=
 ⟨a.os.trans h.os,a.tape.trans h.tape,a.output.trans h.output,qhB h.size a.size,λk c e=>(a.block k (qi0 c h.size) (by simp)).t (h.keep k c e)⟩
def Jr{w b C E:qhr}{D:Nat}(a:w.gb b none)(o:C.os=b.os/\C.tape=b.tape/\C.output=b.output/\b.heap.size<=C.heap.size/\∀k,k<w.heap.size->C.heap[k]?=b.heap[k]?)(c:C.gb E (some D))(f:w.heap.size<=D):w.gb E none :=
 ⟨c.os.trans (o.1.t a.os),c.tape.trans (o.2.1.t a.tape),c.output.trans (o.2.2.1.t a.output),qhB a.size (qhB o.2.2.2.1 c.size),λk d _=>
  (c.block k (qi0 d (qhB a.size o.2.2.2.1)) (by intro e;cases e;omega)).t ((o.2.2.2.2 k d).t (a.block k d (by simp)))⟩
def ZP:Nat->Prop:=λ_=>False
def q22{d:List Int}(x:List Int × qhu)(A:qhr)(l:Nat)(o f:Obj)(h:A.heap[l]?=some o)(q:o.isCells=false)(k:xpO d x A):xpO d x (A.putObj l f):=by
 obtain⟨⟨base,c,e,p,n⟩,r⟩:=k;refine⟨⟨base,c,e,p,λa=>?_⟩,r⟩;have⟨B,j,y,s,w,v,i,b,u⟩:=n a;have g:=ql8 A l f;exact⟨B,j,y,s,w,v,qi0 i g.size,(g.block B i (λe=>by cases e;rw[h] at b;cases b;cases q)).t b,u⟩
def q9d(yv qv:qhu)(g:List Par)(a:Int)(ll R:List Int)(w:qhr)(q6:jf 0 w.heap.size w yv g a)(hI:qg 0 w.heap.size w qv ll)(q4:YOk g a)(hS:J2 ll R)(h5:∀x∈R,0<=x/\x<5)(q5:R.Nodup)(m6:R.length<=5)(q3:∀x:List Int,x.length=R.length->x.Nodup->(∀y∈x,y∈R)->PIn g x) :qis Ya 102 #[yv,qv] w λe w'=>w.gb w' none/\((∃x v,(zA R R.length []).find? (zl g a)=some x/\e=.returned (.tuple #[v,.bool true])/\qg w.heap.size w'.heap.size w' v x) \/((zA R R.length []).find? (zl g a)=none/\e=.returned (.tuple #[.slice none 0 0,.bool false]))):=by
 obtain⟨pv,rfl,hP⟩:=q6;obtain⟨yb,Z,rfl,w8,-⟩:=hP.cell;obtain⟨base,N,rfl,x3,-⟩:=hI.cell;obtain⟨Y,u⟩:∃Y,Y=w.heap.size:=⟨_,rfl⟩;refine(qjA (n:=6)).1 ?_;refine qnC Tp.x102 rfl trivial ?_ rfl;simp only[Tryz.ntmps102,qim,qhE,qi1,qib,qiA,qie,qif,qio,ql1,qii,qi7]
 gi_wp2_with (refine⟨trivial,?_⟩;gi_at_call 117;refine(qjA.2 (Zl _ _ _ _)).mono ?_;rintro e w2 ⟨rfl,rfl⟩)
 obtain⟨F,r⟩:∃F,F=(((w.alloc (.cells #[.slice yb g.length Z,a] 91)).alloc (.cells #[.slice none 0 0] 29)).alloc (.cells #[.bool false] 4)).alloc (.cells #[.slice base ll.length N] 29):=⟨_,rfl⟩;have e3:(((w.alloc (.cells #[.slice yb g.length Z,a] 91)).alloc (.cells #[.slice none 0 0] 29)).alloc (.cells #[.bool false] 4)).alloc (.cells #[.slice base ll.length N] 29)=F:=r.symm;rw[e3];clear e3;rw[<- u];have S:∀(w:qhr) (o:Obj),(w.alloc o).heap.size=w.heap.size+1:=λw o=>qhH w o;have ha:∀(w:qhr) (o:Obj) (k:Nat) (p:Obj),w.heap[k]?=some p->(w.alloc o).heap[k]?=some p:=λw o k p h=>qq h;have X:w.gb F none:=by
  rw[r];exact(((qhq _ _ none).t (qhq _ _ none)).t (qhq _ _ none)).t (qhq _ _ none)
 have q2:F.heap.size=Y+4:=by rw[r,S,S,S,S,u]
 have y3:F.heap[Y]?=some (.cells #[.slice yb g.length Z,a] 91 (0,0)):=by rw[r,u];exact ha _ _ _ _ (ha _ _ _ _ (ha _ _ _ _ (qhA w _)))
 have r3:F.heap[Y+1]?=some (.cells #[.slice none 0 0] 29 (0,0)):=by
  rw[r];refine ha _ _ _ _ (ha _ _ _ _ ?_);have:=qhA (w.alloc (.cells #[.slice yb g.length Z,a] 91)) (.cells #[.slice none 0 0] 29)
  rwa [S,<- u] at this
 have b3:F.heap[Y+2]?=some (.cells #[.bool false] 4 (0,0)):=by
  rw[r];refine ha _ _ _ _ ?_;have:=qhA ((w.alloc (.cells #[.slice yb g.length Z,a] 91)).alloc (.cells #[.slice none 0 0] 29)) (.cells #[.bool false] 4)
  rwa [S,S,<- u] at this
 have l3:F.heap[Y+3]?=some (.cells #[.slice base ll.length N] 29 (0,0)):=by
  rw[r];have:=qhA (((w.alloc (.cells #[.slice yb g.length Z,a] 91)).alloc (.cells #[.slice none 0 0] 29)).alloc (.cells #[.bool false] 4)) (.cells #[.slice base ll.length N] 29)
  rwa [S,S,S,<- u] at this
 have r5:=(hI.kept X).mono (qhv _) X.size;have t3:=qhp ((hP.kept X));have⟨n6,n9,s7,z3,n7,b9⟩:=Kq r3 b3 y3 q2 X u;clear S ha r hI hP r3 b3 y3 X u;refine yz rfl (by omega) (gf:=149) (lb:=#[.pointer (some (Y+3:Nat))]) rfl trivial (enters_of Tp.x149 (by kernel_rfl) rfl)
  (xA 5 (Y+3) base N ll R hS h5 q5 m6 F l3 r5) (qns _ _) (λ_=>rfl) (G0:=ZP) (λh=>h) (by omega) (q22)
  (λpr G W=>(∀x∈pr.map qld,zl g a x=false)/\G=ZP/\Frm F (Y+3) W)
  (λc pr G W=>c=.ret/\∃q x v lo hi,pr.map qld=q++[x]/\(∀y∈q,zl g a y=false)/\zl g a x=true/\(W.os=F.os/\W.tape=F.tape/\W.output=F.output/\F.heap.size<=W.heap.size/\∀k,k<Y->W.heap[k]?=F.heap[k]?) /\
   W.heap[Y+1]?=some (.cells #[v] 29 (0,0))/\W.heap[Y+2]?=some (.cells #[.bool true] 4 (0,0))/\qg lo hi W v x/\(∀k,lo<=k->k<hi->G k)/\hi<=W.heap.size/\Y<=lo)
  (λs G A h k H=>by rw[h.2.1] at H;exact H.elim)
  (λs G A C h f=>⟨h.1,h.2.1,h.2.2.stp f⟩)
  (λc s G A C h f=>by
   obtain⟨hc,q,x,v,lo,hi,h1,h2,h3,⟨o1,o2,o3,o4,o5⟩,h4,h5,h6,h7,h8,h9⟩:=h;refine⟨hc,q,x,v,lo,hi,h1,h2,h3,⟨f.os.trans o1,f.tape.trans o2,f.output.trans o3,qhB o4 f.size,λk H=>(f.keep k (by omega) (.inl ⟨by omega,by omega⟩)).t (o5 k H)⟩,(f.keep _ (qA h4) (.inl ⟨by omega,by omega⟩)).t h4,(f.keep _ (qA h5) (.inl ⟨by omega,by omega⟩)).t h5,?_,h7,qhB h8 f.size,h9⟩;obtain⟨b',c',e,hl,hr⟩:=h6;refine⟨b',c',e,hl,λL=>?_⟩;have⟨B,o,cs,fr,e1,e2,e3,e4,e5⟩:=hr L;exact⟨B,o,cs,fr,e1,e2,e3,(f.keep B (by omega) (.inr (h7 B e2 e3))).t e4,e5⟩)
  ⟨by simp,rfl,Frm.refl _ _⟩
  (λx=>{ tmps:=#[.agg #[.slice yb g.length Z,a],.slice base ll.length N,.pointer (some Y),qhx,.pointer (some (Y+1:Nat)),.pointer (some (Y+1+1:Nat)),x.2,.slice base ll.length N,.func (.func 149) #[] #[.pointer (some (Y+1+1+1:Nat))],x.2,qhx,qhx,qhx,qhx,qhx],defers:=[] }) ?assign ?body ?done ?stop
 case assign=>
  intro l x W K hK
  gi_wp2
  exact hK
 case body=>
  rintro l pr G x W ⟨U,rfl,b⟩ hx -
  have d6:=(b.keep Y (by omega) (by omega)).t s7;have m5:=(b.keep (Y+1) (by omega) (by omega)).t n6;have m9:=(b.keep (Y+2) (by omega) (by omega)).t n9;have n2:qr 0 W.heap.size W (.slice yb g.length Z) g:=by
   have⟨b',c',e,hl,hr⟩:=t3.out;refine⟨b',c',e,hl,λL=>?_⟩;have⟨B,o,cs,fr,e1,e2,e3,e4,e5⟩:=hr L;have:=b9.out;have:=b.size;exact⟨B,o,cs,fr,e1,e2,by omega,(b.keep B (by omega) (by omega)).t e4,e5⟩
  obtain⟨a9,I⟩:=hx;have T:=q3 x.1 I.1 I.2.1 I.2.2.1;have q1:x.1.length<=5:=by have:=I.1;omega
  obtain⟨Q,x2⟩:=x;obtain⟨xb,xc,m4,-,-⟩:=a9.cell;dsimp only at m4 T q1 I;subst m4;have c1:W.cell? Y=some (.slice yb g.length Z):=q8 d6 rfl;have c2:W.cell? ⟨Y,1,none⟩=some (.int .i64 a):=q8 d6 rfl;obtain⟨z,hz⟩:∃z,z=zl g a Q:=⟨_,rfl⟩;have m8:qis Ya 114 #[.agg #[.slice yb g.length Z,a],.slice xb Q.length xc] W λe w'=>e=.returned (.bool z)/\W.gb w' none:=by
   rw[hz];exact Ks 0 W.heap.size _ _ g a Q W ⟨_,rfl,n2⟩ a9 (qhv _) q4 T
  have⟨n8,HZ⟩:=qE m8 hz;have s8:=qhp (show qg 0 W.heap.size W (.slice xb Q.length xc) Q from a9);have⟨s9,d,c3,t1,t7⟩:=ZW I b U m5 m9;clear m8 hz a9 I b U m5 m9 d6 n2 T;cases z with
  | false=>
   gi_wp2_with (refine⟨trivial,?_⟩;gi_at_call 114;refine(CallsIn.inRound l (qjA.2 n8)).mono ?_;rintro e w5 ⟨rfl,M⟩)
   refine⟨ZP,⟨M.tape,M.size,λk H _ _=>M.block k H (by simp),λk H=>H.elim⟩,?_,rfl,d.grown M⟩;intro y hy;rw[qk1] at hy;rcases qku.1 hy with h | h
   ·exact c3 y h
   ·have e:y=Q:=by simpa using h
    rw[e,<- HZ]
  | true=>
   have x0:=d.out.size
   gi_wp2_with (first
    | (refine⟨trivial,?_⟩;gi_at_call 114;refine(CallsIn.inRound l (qjA.2 n8)).mono ?_;rintro e w5 ⟨rfl,M⟩;have i:=qhp M;clear M)
    | (refine⟨trivial,?_⟩;gi_at_call 84;refine(CallsIn.inRound l (qjA.2 (Jv 0 w5.heap.size _ Q w5 ((s8.kept i).mono (qhv _) i.size) (qhv _) s9.2.2.2 (by omega)))).mono ?_;rintro e w6 ⟨v',rfl,b0,e7⟩;obtain⟨vb,vc,rfl,-,-⟩:=e7.cell;have r6:=bk (i.t b0) t1;have b6:=bk (i.t b0) t7;have s6:=q8 (o:=0) r6 rfl;have p6:=qn (o:=0) r6;have s5:=q8 (o:=0) b6 rfl;have p5:=qn (o:=0) b6;have P:=qhp b0;have t5:=qhp e7;have t2:=qhp r6;have t8:=qhp b6;clear b0 e7 r6 b6))
   have z1:=i.out.size;have x8:=P.out.size;have e6:=b9.out;obtain⟨C,j⟩:∃C,C=(w6.setCell (Y+1:Nat) (.slice vb Q.length vc)).setCell (Y+2:Nat) (.bool true):=⟨_,rfl⟩;have eC:(w6.setCell (Y+1:Nat) (.slice vb Q.length vc)).setCell (Y+1+1:Nat) (.bool true)=C:=j.symm;rw[eC];have O:∀k,k≠Y+1->k≠Y+2->C.heap[k]?=w6.heap[k]?:=λk k1 k2=>by
    rw[j];exact(qj4 _ _ _ k (λe=>k2 e)).t (qj4 _ _ _ k (λe=>k1 e))
   have cr:C.heap[Y+1]?=some (.cells #[.slice vb Q.length vc] 29 (0,0)):=by
    rw[j,qj4 _ _ _ (Y+1) (λe=>by have e':Y+1=Y+2:=e;omega),qi t2];rfl
   have cb:C.heap[Y+2]?=some (.cells #[.bool true] 4 (0,0)):=by
    rw[j,qi ((qj4 _ _ _ (Y+2) (λe=>by have e':Y+2=Y+1:=e;omega)).t t8)];rfl
   have cs:C.heap.size=w6.heap.size:=by rw[j];simp[qk2]
   have n3:∀k,k<W.heap.size->w6.heap[k]?=W.heap[k]?:=λk H=>(P.block k (by omega) (by simp)).t (i.block k H (by simp));refine⟨λk=>w5.heap.size<=k/\k<w6.heap.size,⟨?_,by omega,λk H hn _=>?_,λk H=>.inr (by have:=H.1;omega)⟩,rfl,pr.map qld,Q,.slice vb Q.length vc,w5.heap.size,w6.heap.size,by simp,c3,HZ.symm,⟨?_,?_,?_,by omega,λk H=>?_⟩,cr,cb,?_,λk h1 h2=>⟨h1,h2⟩,by omega,by omega⟩
   ·rw[j];exact P.tape.trans i.tape
   ·rw[O k (by omega) (by omega)];exact n3 k H
   ·rw[j];exact(P.os.trans i.os).t d.os
   ·rw[j];exact(P.tape.trans i.tape).t d.tape
   ·rw[j];exact(P.output.trans i.output).t d.output
   ·rw[O k (by omega) (by omega),n3 k (by omega)];exact d.keep k (by omega) (by omega)
   ·have⟨b',c',e,hl,hr⟩:=t5.out;refine⟨b',c',e,hl,λL=>?_⟩;have⟨B,o,g7,fr,e1,e2,e3,e4,e5⟩:=hr L;exact⟨B,o,g7,fr,e1,e2,e3,(O B (by omega) (by omega)).t e4,e5⟩
 case done=>
  rintro D ys G W hD q0 ⟨U,rfl,b⟩ hK r8;have r6:=(b.keep (Y+1) (by omega) (by omega)).t n6;have b6:=(b.keep (Y+2) (by omega) (by omega)).t n9;have s6:=q8 (o:=0) r6 rfl;have p6:=qn (o:=0) r6;have s5:=q8 (o:=0) b6 rfl;have p5:=qn (o:=0) b6;have⟨d,c3⟩:=qE b U;clear b U
  gi_wp2
  have e6:=b9.out;obtain⟨C,j⟩:∃C,C=(W.setCell (Y+1:Nat) (.slice none 0 0)).setCell (Y+2:Nat) (.bool false):=⟨_,rfl⟩;have eC:(W.setCell (Y+1:Nat) (.slice none 0 0)).setCell (Y+1+1:Nat) (.bool false)=C:=j.symm;rw[eC];have O:∀k,k≠Y+1->k≠Y+2->C.heap[k]?=W.heap[k]?:=λk k1 k2=>by
   rw[j];exact(qj4 _ _ _ k (λe=>k2 e)).t (qj4 _ _ _ k (λe=>k1 e))
  have cr:C.heap[Y+1]?=some (.cells #[.slice none 0 0] 29 (0,0)):=by
   rw[j,qj4 _ _ _ (Y+1) (λe=>by have e':Y+1=Y+2:=e;omega),qi r6];rfl
  have cb:C.heap[Y+2]?=some (.cells #[.bool false] 4 (0,0)):=by
   rw[j,qi ((qj4 _ _ _ (Y+2) (λe=>by have e':Y+2=Y+1:=e;omega)).t b6)];rfl
  have r4:C.heap[D]?=some (.deferred (some [])):=(O D (by omega) (by omega)).t hK;have hg:=ql8 C D (.deferred none);have er:=(hg.block (Y+1) (qA cr) (by simp;omega)).t cr;have eb:=(hg.block (Y+2) (qA cb) (by simp;omega)).t cb;have cs:C.heap.size=W.heap.size:=by rw[j];simp[qk2]
  have x4:=d.out.size;refine⟨by simp,.inl ⟨_,_,rfl,qnA r4,?_⟩⟩;refine⟨.tuple #[.slice none 0 0,.bool false],by simp[qke,qrG,go_sem,qiq,er,eb],?_,.inr ⟨?_,rfl⟩⟩
  ·refine Jr n7 ⟨by rw[j];exact d.os,by rw[j];exact d.tape,by rw[j];exact d.output,by omega,λk H=>?_⟩ hg (by omega);rw[O k (by omega) (by omega)];exact d.keep k (by omega) (by omega)
  ·rw[<- q0];exact qn3.2 λy hy=>by rw[c3 y hy];simp
 case stop=>
  rintro D c pr G W hD ⟨t,ht⟩ ⟨rfl,h⟩ hK r8;obtain⟨q,x,v,lo,hi,h1,h2,h3,ho,cr,cb,m7,-,h8,h9⟩:=h;have e6:=b9.out;have hg:=ql8 W D (.deferred none);have er:=(hg.block (Y+1) (qA cr) (by simp;omega)).t cr;have eb:=(hg.block (Y+2) (qA cb) (by simp;omega)).t cb;have V:qg w.heap.size (W.putObj D (.deferred none)).heap.size (W.putObj D (.deferred none)) v x:=by
   obtain⟨b',c',e,hl,hr⟩:=m7;refine⟨b',c',e,hl,λL=>?_⟩;have⟨B,o,g7,fr,e1,e2,e3,e4,e5⟩:=hr L;exact⟨B,o,g7,fr,e1,by omega,qi0 e3 (qhB h8 hg.size),(hg.block B (by omega) (λe=>by cases e;rw[hK] at e4;cases e4)).t e4,e5⟩
  obtain⟨vb,vc,rfl,-,-⟩:=V.cell;have⟨t4,HO⟩:=qE V ho;have HH:=qhp (qi8 h1 (qi8 h2 h3));have HT:=qhp ht;clear m7 V ho h1 h2 h3 ht
  gi_wp2
  refine⟨by simp,.inl ⟨_,_,rfl,qnA hK,?_⟩⟩;refine⟨.tuple #[.slice vb x.length vc,.bool true],by simp[qke,qrG,go_sem,qiq,er,eb],?_,.inl ⟨x,_,?_,rfl,t4⟩⟩
  ·exact Jr n7 (by rw[<- e6];exact HO) hg (by omega)
  ·rw[HT,HH.1,qk8];rw[List.find?_append,qn3.2 (λy hy=>by rw[HH.2.1 y hy];simp)];simp[HH.out.2.2]
end
section
open Go.RowKit
def vU{n:Nat}{x:Int}(h:x∈qO n):0<=x/\x<n:=by
 simp only[qO,qlp,qjC] at h;obtain⟨i,a,rfl⟩:=h;omega
def xB(n:Nat):(qO n).Pairwise (·<·):=by
 unfold qO;rw[List.pairwise_map];exact List.pairwise_lt_range.imp λh=>by omega
def Qj{l:List Int}(h:l.Pairwise (·<·)):l.Nodup:=h.imp λh=>by omega
def vQ{l:List Int}(a:l.length<=12)(h:l.Pairwise (·<·)):J2 l l:=q8k a λi b=>by
 rw[qhz (by omega),qhz b];exact Int.le_of_lt (List.pairwise_iff_getElem.1 h i (i+1) (by omega) b (by omega))
def jB(c:List Int):List (List Int):=zA c c.length []
def xS(d:List Par)(a:Int)(b:Bool × List Int)(c:List Int):Bool × List Int :=
 match (jB c).find? (zl d a) with
 | some p=>(true,if b.1=true/\Z6 p b.2=false then b.2 else p)
 | none=>b
def jH(b:List Par)(a:Int)(L:List (List Int)):Bool × List Int:=L.foldl (xS b a) (false,[])
def xD(b:List Par)(a:Int)(L:List (List Int))(c:List Int):jH b a (L++[c])=xS b a (jH b a L) c:=by simp[jH]
def q7G(b:List Par)(a:Int)(B:Nat)(w0:qhr)(done:List (List Int))(G:Nat->Prop)(W:qhr):Prop :=
 G=ZP/\w0.gb W (some B)/\∃c,W.heap[B]?=some (.cells #[.func (.func 98) #[] #[],c,.bool (jH b a done).1] 108 (0,0))/\qg 0 W.heap.size W c (jH b a done).2
def qg.keptT{f g O:Nat}{w d:qhr}{v:qhu}{l:List Int}(h:qg f g w v l)(r:w.gb d (some O)){b:Array qhu}{k:qi4}{t:Nat × Nat}(i:w.heap[O]?=some (.cells b k t))(a:k≠3):qg f g d v l:=by
 obtain⟨base,c,rfl,q,n⟩:=h;refine⟨base,c,rfl,q,λp=>?_⟩;have⟨B,o,A,s,z,y,x,j,u⟩:=n p;refine⟨B,o,A,s,z,y,x,blk r (λe=>?_) j,u⟩;cases e;rw[j] at i;cases i;exact a rfl
def q8A(b:List Par)(a:Int)(Y B:Nat)(w0:qhr)(w:Option qiG)(u:Nat)(G:w0.heap[Y]?=some (.cells #[.slice w b.length u,a] 91 (0,0)))(a7:qr 0 w0.heap.size w0 (.slice w b.length u) b){a8:Array qhu}{f0:Nat × Nat}(M:w0.heap[B]?=some (.cells a8 108 f0))(C:YOk b a)(c:List Int)(A:c.Pairwise (·<·))(D:∀x∈c,0<=x/\x<b.length)(Z:c.length<=5)(a6:Y≠B)(done:List (List Int))(W:qhr)(hI:q7G b a B w0 done ZP W)(v:qhu)(U:qg 0 W.heap.size W v c) :qis Ya 101 #[v,.pointer (some Y),.pointer (some B)] W λe W'=>e=.returned (.bool false)/\q7G b a B w0 (done++[c]) ZP W'/\W.gb W' (some B):=by
 obtain⟨-,h,R,hB,F⟩:=hI;obtain⟨vb,vc,rfl,-,-⟩:=U.cell;have n:W.heap[Y]?=some (.cells #[.slice w b.length u,a] 91 (0,0)):=(h.block Y (qA G) (λe=>a6 (by cases e;rfl))).t G;have H:qr 0 W.heap.size W (.slice w b.length u) b:=by
  obtain⟨b',c',e,hl,hr⟩:=a7;refine⟨b',c',e,hl,λX=>?_⟩;have⟨B',o,cs,fr,e1,e2,e3,e4,e5⟩:=hr X;cases e;exact⟨B',o,cs,fr,e1,e2,qi0 e3 h.size,(h.block B' e3 (λe'=>by cases e';rw[e4] at M;cases M)).t e4,e5⟩
 have c0:W.cell? Y=some (.slice w b.length u):=q8 n rfl;have c1:W.cell? ⟨Y,1,none⟩=some (.int .i64 a):=q8 n rfl;have k:=q9d (.agg #[.slice w b.length u,a]) (.slice vb c.length vc) b a c c W ⟨_,rfl,H⟩ U C (vQ (by omega) A) (λx i=>by have:=D x i;have:=C.len;omega) (Qj A) Z (λx hl hn i=>⟨λy hy=>D y (i y hy),hn,by omega⟩);have⟨S,T,r,O⟩:=j8 k hB F h;clear k hB F h n H U;cases hfd:(zA c c.length []).find? (zl b a) with
 | none=>
  rw[hfd] at S;have q:=qhp hfd;clear hfd;go_enter Tp.x101,Tryz.ntmps101;go_wp2_with (go_at_call 102;refine(S).mono ?_;rintro e w2 ⟨d,⟨x,P,i,-⟩ | ⟨-,rfl⟩⟩;cases i);go_ret;have g:xS b a (jH b a done) c=jH b a done:=by unfold xS;rw[show(jB c).find? _=none from q]
  exact⟨rfl,⟨rfl,O.andThen d (by simp),R,by rw[xD,g];exact bk d T,by rw[xD,g];exact(r.kept d).mono (qhv _) d.size⟩,(qhD _ _).andThen d (by simp)⟩
 | some p=>
  rw[hfd] at S;have q:=qhp hfd;clear hfd;obtain⟨s,V⟩:∃s,s=(jH b a done).1:=⟨_,rfl⟩;rw[<- V] at T;have HS:=qhp V;clear V;go_enter Tp.x101,Tryz.ntmps101;go_wp2_with (first
   | (go_at_call 102;refine(S).mono ?_;rintro e w2 ⟨d,⟨x,P,i,rfl,I⟩ | ⟨i,-⟩⟩<;>cases i;have f:=qhp d;have N:=qhp I;clear d I)
   | (go_at_call 103;refine(qag B s R P (jH b a done).2 p w2 (bk f T) ((r.kept f).mono (qhv _) f.size) (N.mono (qiu _) (qhv _))).mono ?_;rintro e l ⟨rfl,hT⟩;have z:=qhp hT;clear hT))
  go_ret;have g:xS b a (jH b a done) c=(true,if s=true/\Z6 p (jH b a done).2=false then(jH b a done).2 else p):=by unfold xS;rw[show(jB c).find? _=some p from q,HS]
  have L:=bk f T;have i:=r.out.kept f;have gW:W.gb l (some B):=(((qhD W (some B)).andThen f (by simp))).andThen z.1 (λj e=>.inr e);have h3:qg 0 l.heap.size l (if s=true/\Z6 p (jH b a done).2=false then R else P) (if s=true/\Z6 p (jH b a done).2=false then(jH b a done).2 else p):=by
   have t1:qg 0 l.heap.size l R (jH b a done).2:=(i.keptT z.1 L (by decide)).mono (qhv _) (qhB f.size z.1.size);have t2:qg 0 l.heap.size l P p:=(N.keptT z.1 L (by decide)).mono (qiu _) z.1.size;by_cases Q:s=true/\Z6 p (jH b a done).2=false
   ·rw[if_pos Q,if_pos Q];exact t1
   ·rw[if_neg Q,if_neg Q];exact t2
  exact⟨rfl,⟨rfl,O.andThen gW (λj e=>.inr e),_,by rw[xD,g];exact z.2,by rw[xD,g];exact h3⟩,gW⟩
def POk.nil(b:List Par){a:Int}(h:1<=a):POk b a []:=⟨by simp,List.nodup_nil,by simp[qS];omega,by simp⟩
def q77{n:Nat}{c:List Int}(h:c.Sublist (qO n)):c.Pairwise (·<·)/\(∀x∈c,0<=x/\x<n)/\c.length<=n :=
 ⟨(xB n).sublist h,λx a=>vU (h.subset a),by have:=h.length_le;rwa [z6] at this⟩
def qdt{d:List Par}{a:Int}{Y B:Nat}{w0:qhr}{l:Option qiG}{j:Nat}(o:w0.heap[Y]?=some (.cells #[.slice l d.length j,a] 91 (0,0)))(p:qr 0 w0.heap.size w0 (.slice l d.length j) d){u:Array qhu}{D:Nat × Nat}(i:w0.heap[B]?=some (.cells u 108 D))(g:YOk d a)(n:Y≠B) :Cb w0.heap.size (qO d.length) 101 #[.pointer (some Y),.pointer (some B)] (q7G d a B w0):=by
 refine⟨?_,?_,enters_of Tp.x101 (by kernel_rfl) rfl,?_⟩
 ·rintro s G A C ⟨rfl,t,F,r,x⟩ b;exact⟨rfl,t.andThen b (by simp),F,bk b r,(x.kept b).mono (qhv _) b.size⟩
 ·rintro s G A ⟨rfl,-⟩ k h;exact h.elim
 ·rintro done G W v c w y - f -
  have⟨t,r,x⟩:=q77 f;obtain rfl:=w.1;refine(q8A d a Y B w0 l j o p i g c t r (by have:=g.len;omega) n done W w v y).mono ?_;rintro e I ⟨rfl,q,b⟩;have z:=qA i;exact⟨rfl,ZP,q,b.tape,b.size,λk h H _=>b.block k h (λe=>by cases e;omega),λk h=>h.elim⟩
def qbk{a:List Par}{d:Int}{Y B:Nat}{w0:qhr}{n:Option qiG}{l:Nat}(i:w0.heap[Y]?=some (.cells #[.slice n a.length l,d] 91 (0,0)))(j:qr 0 w0.heap.size w0 (.slice n a.length l) a)(f:YOk a d)(g:Y≠B)(o:w0.heap[B]?=some (.cells #[.func (.func 98) #[] #[],.slice none 0 0,.bool false] 108 (0,0))){b:Option qiG}{k:Nat}(r:qg 0 w0.heap.size w0 (.slice b a.length k) (qO a.length)) :qis Ya 82 #[.slice b a.length k,.func (.func 101) #[] #[.pointer (some Y),.pointer (some B)]] w0 λe p=>e=.returned (.bool false)/\q7G a d B w0 (jZ (qO a.length) 0) ZP p:=by
 have s:a.length<=5:=f.len;have h:=qgm (b:=b) (c:=k) (ll:=qO a.length) (qdt i j o f g) (by rw[z6];omega) (vQ (by rw[z6];omega) (xB _)) (by rw[z6];exact r) (G:=ZP) ⟨rfl,qhD _ _,_,o,qg.nil _ _ _⟩;rw[z6] at h;refine h.mono ?_;rintro e p ⟨q,t,h⟩;obtain rfl:=h.1;exact⟨q,h⟩
def q4c(pv:qhu)(c:List Par)(b:Int)(w:qhr)(Q:qr 0 w.heap.size w pv c)(z:YOk c b) :qis Ya 44 #[.agg #[pv,b]] w λe O=>∃v,e=.returned (.tuple #[v,.int .i64 0])/\w.gb O none/\qg 0 O.heap.size O v (jH c b (jZ (qO c.length) 0)).2:=by
 obtain⟨N,M,rfl,b0,-⟩:=Q.cell;have⟨HP,i⟩:=qE Q z;clear Q z;go_enter Tp.x44,Tryz.ntmps44;go_upto_region 4 with(go_at_call 81;refine(vg 0 w.heap.size _ _ c b [] _ (HP.kept (qhq _ _ none)) (qg.nil _ _ _) (by simp) i (POk.nil c i.l1)).mono ?_;rintro e w2 ⟨rfl,G⟩;have X:=qhp ((qhq w (.cells #[.slice N c.length M,b] 24) none).t G);clear G);obtain⟨Y,k⟩:∃Y,Y=w2.heap.size:=⟨_,rfl⟩;obtain⟨j,g⟩:∃j,j=w2.alloc (.cells #[.slice N c.length M,b] 91):=⟨_,rfl⟩;rw[<- k,<- g];have C:j.heap[Y]?=some (.cells #[.slice N c.length M,b] 91 (0,0)):=by rw[g,k];exact qhA _ _
 have F:w.gb j none:=X.out.t (by rw[g];exact qhq _ _ none);have⟨r,L⟩:=qE C F;clear k g C F;have b7:∀(a:qiG) (R:Fn) (x y:Array qhu) (m:Mode) (w:qhr),(store a (.func R x y) m).run Ya w=stored Ya w a (.func R x y) m:=λa R x y m w=>run_store _ w a _ m rfl;go_upto_region 5 with(fail);obtain⟨B,q⟩:∃B,B=j.heap.size:=⟨_,rfl⟩;obtain⟨u,f⟩:∃u,u=j.alloc (.cells #[.func (.func 98) #[] #[],.slice none 0 0,.bool false] 108):=⟨_,rfl⟩;rw[<- q,<- f];have I:u.heap[B]?=some (.cells #[.func (.func 98) #[] #[],.slice none 0 0,.bool false] 108 (0,0)):=by rw[f,q];exact qhA _ _
 have p:j.gb u none:=by rw[f];exact qhq _ _ none
 have h:=bk p r;have P:w.heap.size<=B:=by have:=L.out.size;omega
 have⟨Z,T⟩:=qE I h;have s:=qhp (L.t p);have S:=qhp (show Y≠B by have:=qA r;omega);have c0:=q8 h (o:=0) rfl;have c1:=q8 h (o:=1) rfl;clear q f I p h r;have hn:c.length<=1000:=by have:=i.out.len;omega
 go_upto_region 6 with(first
  | (go_at_call 100;refine(vh N c.length M b u hn).mono ?_;rintro e w5 ⟨v5,rfl,D,n⟩;obtain⟨b5,k5,e5,-,-⟩:=n.cell;rw[z6] at e5;subst e5;have d:=qhp D;have V:=qhp n;clear D n)
  | (go_at_call 82;refine(qbk (bk d T) ((HP.kept (s.t d)).mono (qhv _) (s.t d).size) i S (bk d Z) (V.mono (qiu _) (qhv _))).mono ?_;rintro e w6 ⟨rfl,-,A,bv,H,l⟩;obtain⟨b6,k6,rfl,-,-⟩:=l.cell;have c6:=q8 H (o:=1) rfl;have U:=qhp l;have W:=qhp A;clear l A H))
 go_wp2;go_ret2;exact⟨_,rfl,xW (s.t d) W P,U⟩
end
section
open Go.RowKit
def zn(lo hi B o:Nat)(w:qhr)(L:List (List Int)):Prop :=
 ∃a,w.heap[B]?=some (.cells a 29 (0,0))/\∀i,i<L.length->∃l x,L[i]?=some l/\a[o+i]?=some x/\qg lo hi w x l
def q05:Nat->List (List Int)->List (List Int)
 | 0,L=>L
 | j+1,L=>match L[j+1]?,L[j]? with
  | some a,some b=>if je a b<0 then q05 j ((L.set (j+1) b).set j a) else L
  | _,_=>L
def zL(k:Nat)(L:List (List Int)):List (List Int):=(qil k).foldl (λL i=>q05 i L) L
def xJ(k:Nat)(L:List (List Int)):zL (k+1) L=q05 k (zL k L):=by simp[zL,qlo]
def qb1(j:Nat)(L:List (List Int)):(q05 j L).length=L.length:=by
 induction j generalizing L with
 | zero=>rfl
 | succ j a=>
  unfold q05;split
  ·split
   ·rw[a];simp
   ·rfl
  ·rfl
def JO(k:Nat)(L:List (List Int)):(zL k L).length=L.length:=by
 induction k with
 | zero=>rfl
 | succ k a=>rw[xJ,qb1,a]
section
variable{lo hi B o:Nat}{w w':qhr}{L:List (List Int)}
def zn.kept{r:Option Nat}(h:zn lo hi B o w L)(f:w.gb w' r)(d:∀R,r=some R->R≠B/\(R<lo\/hi<=R):=by simp):zn lo hi B o w' L:=by
 obtain⟨k,j,g⟩:=h;refine⟨k,blk f (λe=>(d B e.symm).1 rfl) j,λi hi=>?_⟩;have⟨l,x,a,b,c⟩:=g i hi;exact⟨l,x,a,b,c.kept f λR e=>(d R e).2⟩
def zn.at{k:Nat}(h:zn lo hi B o w L)(f:k<L.length):∃l e d,L[k]?=some l/\w.cell? ⟨B,o+k,none⟩=some (.slice e l.length d)/\qg lo hi w (.slice e l.length d) l:=by
 obtain⟨j,i,g⟩:=h;have⟨l,x,a,b,c⟩:=g k f;obtain⟨e,d,rfl,-,-⟩:=c.cell;exact⟨l,e,d,a,by simp[qiq,i,b],c⟩
def zn.thaw{k:Nat}(h:zn lo hi B o w L):w.frozen? ⟨B,o+k,none⟩=false:=by
 obtain⟨c,a,b⟩:=h;exact qn a
def qg.setT{v x:qhu}{l:List Int}{k:Nat}{s:Array qhu}(h:qg lo hi w v l)(c:w.heap[B]?=some (.cells s 29 (0,0))):qg lo hi (w.setCell ⟨B,k,none⟩ x) v l:=by
 obtain⟨base,b,rfl,i,f⟩:=h;refine⟨base,b,rfl,i,λg=>?_⟩;have⟨C,o,a,j,r,q,p,d,n⟩:=f g;refine⟨C,o,a,j,r,q,p,(qj4 _ _ _ C (λe=>?_)).t d,n⟩;have e:C=B:=e;subst e;rw[d] at c;cases c
def zn.step{j:Nat}{y v:qhu}(h:zn lo hi B o w L)(d:w.cell? ⟨B,o+j,none⟩=some y):(w.setCell ⟨B,o+(j+1),none⟩ v).cell? ⟨B,o+j,none⟩=some y/\(w.setCell ⟨B,o+(j+1),none⟩ v).frozen? ⟨B,o+j,none⟩=false:=by
 obtain⟨c,a,-⟩:=h;have b:(w.setCell ⟨B,o+(j+1),none⟩ v).heap[B]?=some (.cells (c.setIfInBounds (o+(j+1)) v) 29 (0,0)):=by rw[qi a]
 have e:c[o+j]?=some y:=by simpa[qiq,a] using d
 exact⟨q8 b (by rw[qjb (by omega)];exact e),qn b⟩
def zn.swap{j:Nat}{a b:List Int}{x y:qhu}(h:zn lo hi B o w L)(u:L[j+1]?=some a)(I:L[j]?=some b)(s:w.cell? ⟨B,o+(j+1),none⟩=some x)(r:w.cell? ⟨B,o+j,none⟩=some y)(k:qg lo hi w x a)(g:qg lo hi w y b) :zn lo hi B o ((w.setCell ⟨B,o+(j+1),none⟩ y).setCell ⟨B,o+j,none⟩ x) ((L.set (j+1) b).set j a):=by
 obtain⟨f,c,v⟩:=h;have d:(w.setCell ⟨B,o+(j+1),none⟩ y).heap[B]?=some (.cells (f.setIfInBounds (o+(j+1)) y) 29 (0,0)):=by rw[qi c]
 have A:((w.setCell ⟨B,o+(j+1),none⟩ y).setCell ⟨B,o+j,none⟩ x).heap[B]?=some (.cells ((f.setIfInBounds (o+(j+1)) y).setIfInBounds (o+j) x) 29 (0,0)):=by rw[qi d]
 obtain⟨t,-⟩:=qi3.1 u;have F:f[o+(j+1)]?=some x:=by simpa[qiq,c] using s
 have D:f[o+j]?=some y:=by simpa[qiq,c] using r
 have H:=(qhs.1 F).1;have G:=(qhs.1 D).1;refine⟨_,A,λi hi=>?_⟩;simp only[qo1] at hi;by_cases e:i=j
 ·subst e;refine⟨a,x,qn4 (by rw[qo1];omega),ql3 (by rw[Array.size_setIfInBounds];omega),(k.setT c).setT d⟩
 ·by_cases C:i=j+1
  ·subst C;refine⟨b,y,by rw[qls (by omega)];exact qn4 (by omega),by rw[qjb (by omega)];exact ql3 (by omega),(g.setT c).setT d⟩
  ·have⟨l,z,q,p,n⟩:=v i hi;refine⟨l,z,by rw[qls (by omega),qls (by omega)];exact q,by rw[qjb (by omega),qjb (by omega)];exact p,(n.setT c).setT d⟩
end
def q0f(lo hi B o:Nat)(c:Nat)(L:List (List Int))(w:qhr)(hI:zn lo hi B o w L)(k5:hi<=w.heap.size)(k8:L.length<=1000) :qis Ya 188 #[.slice (some ⟨B,o,none⟩) L.length c,.int .i64 (0:Nat),L.length,.func (.func 122) #[] #[]] w λe w'=>e=.returned (.tuple #[])/\w.gb w' (some B)/\zn lo hi B o w' (zL L.length L):=by
 have HI:=qhp hI;have g9:(L.length:Int)<=1000:=by omega
 clear hI;go_enter Tp.x188,Tryz.ntmps188;go_wp2;go_loopw [8] (λV wr=>∃k:Nat,V=.int .i64 (k+1:Nat)/\k<=1000/\w.gb wr (some B)/\zn lo hi B o wr (zL (min (k+1) L.length) L)) (λV _=>(L.length - qiF V).toNat)
 case atStart=>exact⟨0,rfl,by omega,qhD _ _,by
  by_cases h:L.length=0
  ·rw[h];exact HI
  ·rw[show min (0+1) L.length=0+1 by omega,xJ];exact HI⟩
 case round=>
  obtain⟨k,rfl,hk,hG,hR⟩:=hrel;have⟨HG,HR⟩:=qE hG hR;clear hG hR;by_cases g8:k+1<L.length
  ·have b9:(k:Int)+1<(L.length:Int):=by omega
   have b7:IntKind.i64.wrap ((k:Int)+1+1)=(k:Int)+1+1:=qin _ (by omega);have e9:IntKind.i64.wrap ((k:Int)+1)=(k:Int)+1:=qin _ (by omega);go_wp2;go_loopw [9] (λU w2=>∃(j:Nat) (i:List (List Int)),U=.int .i64 j/\j<=k+1/\q05 (k+1) (zL (min (k+1) L.length) L)=q05 j i/\i.length=L.length/\w.gb w2 (some B)/\zn lo hi B o w2 i) (λU _=>(qiF U).toNat)
   case atStart=>exact⟨k+1,_,rfl,qhv _,rfl,JO _ _,HG,HR⟩
   case round=>
    obtain⟨j0,i,rfl,hj,hs,F,H,G⟩:=hrel;have⟨x,y,A,g⟩:=j8 hs F H G;clear hs F H G;have l:q05 (k+1) (zL (min (k+1) L.length) L)=i->∀p,w.gb p (some B)->zn lo hi B o p i->∃T,qid .i64 ((k:Int)+1+1)=.int .i64 ((T+1:Nat):Int)/\T<=1000/\w.gb p (some B)/\zn lo hi B o p (zL (min (T+1) L.length) L):=λe p h1 h2=>
     ⟨k+1,by simp,by omega,h1,by rw[show min (k+1+1) L.length=(k+1)+1 by omega,xJ,<- show min (k+1) L.length=k+1 by omega,show min (k+1) L.length=k+1 by omega];rw[show min (k+1) L.length=k+1 by omega] at e;rw[e];exact h2⟩
    have n:=qhp l;clear l;cases j0 with
    | zero=>
     go_wp2_with (fail);go_quiet (fail);go_wp2;go_roundw
     case rel=>exact n x _ (A.andThen (qk _ _ none) (by simp)) (g.kept (qk _ _ none))
     case measure=>simp[qiF];omega
    | succ j=>
     have⟨a,xb,xc,X,x1,S⟩:=g.out.at (k:=j+1) (by have:=y.out;omega);have⟨b,R,Q,W,y1,P⟩:=g.out.at (k:=j) (by have:=y.out;omega);have z1:=g.out.thaw (k:=j+1);have z0:=g.out.thaw (k:=j);have d:q05 (j+1) i=if je a b<0 then q05 j ((i.set (j+1) b).set j a) else i:=by
      show(match i[j+1]?,i[j]? with | some a,some b=>_ | _,_=>_)=_;rw[X,W]
     have r:=λC (h:World.gb _ C none)=>JU lo hi lo hi _ _ a b C (S.kept h) (P.kept h);generalize je a b=z at d r;have N:=qhp r;have g5:IntKind.i64.wrap (j:Int)=(j:Int):=qin _ (by omega);have g7:((j:Int)+1).toNat=j+1:=by omega
     have h9:(j:Int)+1<(L.length:Int):=by omega
     have c3:(j:Int)<(L.length:Int):=by omega
     have k0:(0:Int)<=(j:Int)+1:=by omega
     have h8:(0:Int)<(j:Int)+1:=by omega
     have g6:(j:Int)+1 - 1=(j:Int):=by omega
     have XI:=qhp (qi8 S P);have E:=qhp (qi8 X W);clear r S P X W;by_cases hz:z<0
     ·rw[if_pos hz] at d;have u:=qhp d;clear d;go_wp2_with (fail);go_quiet (first | (go_at_call 122;refine qk0 ((N _ (qk _ _ none)).mono (λe p h=>⟨h.1,h.2.symm⟩))));go_upto_region 6 with(fail);have q:=qk wr nq none;generalize wr.drewN nq=wa at q ⊢;have f:wr.gb wa.drew none:=q.t (qe wa none);have M:=g.out.kept f;have x2:=f.cl x1;have D:=f.cl y1;have Z:=qhp (M.swap E.1 E.2 x2 D (XI.1.kept f) (XI.2.kept f));have a6:=qhp (((A.andThen f (by simp)).andThen (qh _ B (o+(j+1)) (.slice R b.length Q)) (λj e=>.inr e)).andThen (qh _ B (o+j) (.slice xb a.length xc)) (λj e=>.inr e));have z2:=M.thaw (k:=j+1);have O:=M.thaw (k:=j);have s:=M.step (v:=.slice R b.length Q) D;have I:=qhp s;have z4:=s.2;clear M s x1 y1 z1 z0 q f;refine qz 16 (λw'=>w'.cell? ⟨B,o+j,none⟩=some (.slice R b.length Q)/\w'.frozen? ⟨B,o+j,none⟩=false) (by kernel_rfl) (by kernel_rfl) ⟨D,O⟩ (λhHeld=>?_);simp only[qhE,qi1,qib,qiA,qi6,qie,qif,qio,qii,qi7];refine tk 0 (h:=tk 1 (h:=tk 2 (h:=tk 3 (h:=tk 4 (h:=tk 5 (h:=tk 6 (h:=tk 7 (h:=tk 8 (h:=tk 9 (h:=tk 10 (h:=tk 11 (h:=tk 12 (h:=?_)))))))))))));try go_frame
      refine rdc 13 λK Y=>?_;go_simp;refine Y.out _ _ (by first | exact hHeld | exact⟨D,O⟩ | exact I) (λhHeld=>?_);refine tk 14 (h:=?_);try go_frame
      refine rdc 15 λK Y=>?_;go_simp;refine Y.out _ _ (by first | exact hHeld | exact⟨D,O⟩ | exact I) (λhHeld=>?_);try go_frame
      refine⟨by kernel_rfl,?_⟩;simp only[qig,qit];go_wp2;refine⟨?_,?measure⟩
      repeat apply Exists.intro
      refine⟨?rel,rfl⟩
      case rel=>exact⟨j,_,rfl,by omega,x.t u,by simp[y.out],a6,Z⟩
      case measure=>simp[qiF]
     ·rw[if_neg hz] at d;have u:=qhp d;clear d;go_wp2_with (fail);go_quiet (first | (go_at_call 122;refine qk0 ((N _ (qk _ _ none)).mono (λe p h=>⟨h.1,h.2.symm⟩))));go_wp2;refine⟨?_,?measure⟩
      repeat apply Exists.intro
      refine⟨?rel,rfl⟩
      case rel=>exact n (x.t u) _ (A.andThen (qk _ _ none) (by simp)) (g.kept (qk _ _ none))
      case measure=>simp[qiF];omega
  ·have he:min (k+1) L.length=L.length:=by omega
   rw[he] at HR;go_wp2;go_end0;exact⟨rfl,HG,HR⟩
end
section
open Go.RowKit
def qdo(g f B o c:Nat)(L:List (List Int))(d:Int)(w:qhr)(j:zn g f B o w L)(h:f<=w.heap.size)(n:L.length<=12) :qis Ya 155 #[.slice (some ⟨B,o,none⟩) L.length c,.int .i64 (0:Nat),L.length,d,.func (.func 122) #[] #[]] w λe i=>e=.returned (.tuple #[])/\w.gb i (some B)/\zn g f B o i (zL L.length L):=by
 have p:=qhp j;clear j;go_enter Tp.x155,Tryz.ntmps155;go_wp2;go_loopw [1,2,3] (λa b c wr=>a=.int .i64 (0:Nat)/\b=.int .i64 L.length/\c=.int .i64 d/\w=wr) (λ_ _ _ _=>0)
 case atStart=>exact⟨rfl,rfl,rfl,rfl⟩
 case round=>
  obtain⟨rfl,rfl,rfl,rfl⟩:=hrel;have s:IntKind.i64.wrap (L.length:Int)=(L.length:Int):=qin _ (by omega);have r:(L.length:Int)<=12:=by omega
  go_wp2_with (go_at_call 188;refine(q0f g f B o c L _ p h (by omega)).mono ?_;rintro e q ⟨rfl,l,k⟩);refine qka (results_none rfl _ _ _) rfl ?_;exact⟨rfl,l,k⟩
def qaF(d b B o c:Nat)(L:List (List Int))(w:qhr)(h:zn d b B o w L)(f:b<=w.heap.size)(a:L.length<=12) :qis Ya 121 #[.slice (some ⟨B,o,none⟩) L.length c,.func (.func 122) #[] #[]] w λe g=>e=.returned (.tuple #[])/\w.gb g (some B)/\zn d b B o g (zL L.length L):=by
 have l:=qhp h;have n:IntKind.u64.wrap (L.length:Int)=(L.length:Int):=by simp[IntKind.wrap,IntKind.signed,IntKind.bits];omega
 clear h;go_enter Tp.x121,Tryz.ntmps121;go_wp2_with (first
  | (go_at_call 156;refine(JX L.length a _).mono ?_;rintro e i ⟨v,rfl,rfl⟩)
  | (go_at_call 155;refine(qdo d b B o c L _ _ l f a).mono ?_;rintro e i ⟨rfl,k,j⟩))
 go_end0;exact⟨rfl,k,j⟩
def q17(z G:Nat)(v:qhu)(l:List Int)(w:qhr)(q:qg z G w v l)(r:∀x∈l,0<=x/\x<5) :qis Ya 123 #[v] w λe t=>e=.returned (.int .u8 (zj l:Nat))/\w=t:=by
 obtain⟨b,c,rfl,F,p⟩:=q.cell;have⟨N,s⟩:=qE p r;clear p r q;go_enter Tp.x123,Tryz.ntmps123;go_wp2;go_loopw [3,9] (λu g wr=>∃k:Nat,g=.int .i64 k/\u=.int .u8 (zj (l.take k):Nat)/\k<=l.length/\w=wr) (λ_ g _=>(l.length - qiF g).toNat)
 case atStart=>exact⟨0,rfl,rfl,by omega,rfl⟩
 case round=>
  obtain⟨k,rfl,rfl,P,rfl⟩:=hrel;by_cases a:k<l.length
  ·obtain⟨B,o,rfl,L,I,H,d⟩:=N.out (by intro e;rw[e] at a;simp at a);obtain⟨x,f⟩:∃x,l[k]?=some x:=⟨_,qhz a⟩;have i:=d k a;rw[f] at i;simp only[qhC] at i;have⟨D,C⟩:=s.out x (qi9 f);obtain⟨n,rfl⟩:∃n:Nat,x=(n:Int):=⟨x.toNat,by omega⟩;have hm:zj (l.take k)<32:=xE _ 5 λy A=>by have:=s.out y (qmp A);omega
   have h:=Jn l k n f;have j:(k:Int)<(l.length:Int):=by omega
   generalize zj (l.take k)=m at hm h ⊢;have M:=qhp h;clear h d f;go_wp2_with (go_at_call 151;refine(Zz m n _ hm (by omega)).mono ?_;rintro e O ⟨rfl,rfl⟩);go_roundw
   case rel=>exact⟨k+1,by simp,by rw[M,Int.toNat_natCast],by omega,by first | rfl | trivial⟩
   case measure=>simp[qiF];omega
  ·obtain rfl:k=l.length:=by omega
   go_wp2;go_ret;exact⟨by rw[qjs];rfl,by first | rfl | trivial⟩
end
section
open Go.RowKit Go.Shelf
attribute [local go_sem] Oper.semAt_some
def q3D(a:List Par)(c:List Int):List (List Int):=(jB c).filter λo=>!o.isEmpty && qx a (pre Par.mx a a.length) o
def vR(a:List Par)(L:List (List Int)):List (List Int):=L.flatMap (q3D a)
def q63(a:List Par)(L:List (List Int))(c:List Int):vR a (L++[c])=vR a L++q3D a c:=by simp[vR]
def qf3(b:Nat)(L:List (List Int))(a:List qhu)(G:Nat->Prop)(W:qhr):Prop :=
 ∀i,i<L.length->∃l x,L[i]?=some l/\a[i]?=some x/\qg b W.heap.size W x l/\∀B o n c,x=.slice (some ⟨B,o,none⟩) n c->l≠[]->G B
structure J5(Sg:Nat)(w0:qhr)(L:List (List Int))(G:Nat->Prop)(W:qhr):Prop where
 os:W.os=w0.os
 tape:W.tape=w0.tape
 output:W.output=w0.output
 size:w0.heap.size<=W.heap.size
 keep:∀k,k<w0.heap.size->k≠Sg->W.heap[k]?=w0.heap[k]?
 lt:∀k,G k->w0.heap.size<=k/\k<W.heap.size
 sl:Sg<w0.heap.size
 sg:∃sv vals,W.heap[Sg]?=some (.cells #[sv] 36 (0,0))/\W.ownsRow w0.heap.size 29 1 sv L.length vals/\(∀g,sv.ownBlock=some g->G g)/\qf3 w0.heap.size L vals G W
def q1u{d:Nat}{A C:qhr}{x:qhu}{l:List Int}(h:qg d A.heap.size A x l)(s:A.heap.size<=C.heap.size)(i:∀B o n c,x=.slice (some ⟨B,o,none⟩) n c->l≠[]->C.heap[B]?=A.heap[B]?):qg d C.heap.size C x l:=by
 obtain⟨base,b,rfl,g,f⟩:=h;refine⟨base,b,rfl,g,λa=>?_⟩;have⟨B,o,r,j,e,q,u,p,k⟩:=f a;exact⟨B,o,r,j,e,q,by omega,(i B o _ _ (by rw[e]) a).t p,k⟩
def jR{i e f:Nat}{A C:qhr}{v:qhu}{n:Nat}{d:List qhu}(h:A.ownsRow i e f v n d)(k:∀g,v.ownBlock=some g->C.heap[g]?=A.heap[g]?):C.ownsRow i e f v n d:=by
 obtain⟨p,a⟩:=h;refine⟨p,?_⟩;rcases a with a | ⟨g,c,b,rfl,o,l,j⟩
 ·exact .inl a
 ·exact .inr ⟨g,c,b,rfl,o,(k g (by simp[qix])).t l,j⟩
def Jd{n1 B:Nat}{G:Nat->Prop}{A C:qhr}(a:A.gb C none):Stp n1 B G A C:=⟨a.os,a.tape,a.output,a.size,λk b _=>a.block k b (by simp)⟩
def J5.stp{u:Nat}{w0:qhr}{L:List (List Int)}{G:Nat->Prop}{A C:qhr}{v B:Nat}(h:J5 u w0 L G A)(b:Stp v B G A C)(P:w0.heap.size<=v)(Q:w0.heap.size<=B):J5 u w0 L G C:=by
 have f:=h.sl;have z:=h.size;have p:=b.size;have q:∀k,k<w0.heap.size->C.heap[k]?=A.heap[k]?:=λk q=>b.keep k (by omega) (.inl ⟨by omega,by omega⟩);have⟨y,d,I,H,r,F⟩:=h.sg;refine⟨b.os.trans h.os,b.tape.trans h.tape,b.output.trans h.output,by omega,λk j a=>(q k j).t (h.keep k j a),λk w=>⟨(h.lt k w).1,by have:=(h.lt k w).2;omega⟩,f,y,d,(q u f).t I,jR H λg e=>b.keep g (h.lt g (r g e)).2 (.inr (r g e)),r,λi D=>?_⟩;have⟨l,x,O,N,M,s⟩:=F i D;exact⟨l,x,O,N,q1u M p λB o n c e a=>b.keep B (h.lt B (s B o n c e a)).2 (.inr (s B o n c e a)),s⟩
def J5.push{j:Nat}{w0:qhr}{L:List (List Int)}{G:Nat->Prop}{W E C:qhr}{q r:qhu}{b:List qhu}{x:qhu}{l:List Int}(h:J5 j w0 L G W)(h1:W.heap[j]?=some (.cells #[q] 36 (0,0)))(h2:W.ownsRow w0.heap.size 29 1 q L.length b)(M:∀g,q.ownBlock=some g->G g)(h4:qf3 w0.heap.size L b G W)(v:W.gb E q.ownBlock)(F:E.ownsRow w0.heap.size 29 1 r (L.length+1) (b++[x]))(hv:∀g,r.ownBlock=some g->q.ownBlock=some g\/W.heap.size<=g)(z:∀g,r.ownBlock=some g->g<E.heap.size)(hx:qg W.heap.size E.heap.size E x l)(X:C=E.setCell j r) :J5 j w0 (L++[l]) (λk=>G k\/(W.heap.size<=k/\k<C.heap.size)) C/\∀n B,j<n->j≠B->Bod n B G (λk=>G k\/(W.heap.size<=k/\k<C.heap.size)) W C:=by
 have h5:b.length=L.length:=by have:=h2.1;omega
 have s:∀y m g,q.ownBlock=some g->qg w0.heap.size W.heap.size W y m->∀B o n c,y=.slice (some ⟨B,o,none⟩) n c->m≠[]->B≠g:=by
  rintro y m g f ⟨base,cap,rfl,R,D⟩ B o n c e a rfl;have⟨B',o',cs,Y,w,O,N,p,Z⟩:=D a;cases e;cases w;rcases h2.2 with⟨rfl,_⟩ | ⟨g',b0,d7,rfl,hb,T,_⟩
  ·simp[qix] at f
  ·obtain rfl:g'=B:=by simpa[qix] using f
   rw[T] at p;cases p
 have Q:=h.sl;have b7:=h.size;have b9:=v.size;have d:=qh E j 0 r;rw[<- X] at d;have c3:C.heap.size=E.heap.size:=by rw[X];simp[qk2]
 have V:E.heap[j]?=some (.cells #[q] 36 (0,0)):=(v.block j (by omega) (λe=>by have:=(h.lt _ (M _ e.symm)).1;omega)).t h1;have U:C.heap[j]?=some (.cells #[r] 36 (0,0)):=by rw[X,qi V];rfl
 have H:∀k,k<W.heap.size->k≠j->q.ownBlock≠some k->C.heap[k]?=W.heap[k]?:=λk H a s=>(d.block k (by omega) (by intro e;cases e;exact a rfl)).t (v.block k H (λe=>s e.symm));refine⟨⟨d.os.trans (v.os.trans h.os),d.tape.trans (v.tape.trans h.tape),d.output.trans (v.output.trans h.output),by omega,λk u a=>?_,λk f=>?_,Q,r,b++[x],U,?_,λg e=>?_,λi hi=>?_⟩,λn B hn hB=>⟨d.tape.trans v.tape,by omega,λk u hc f=>?_,λk f=>f.imp id λe=>e.1⟩⟩
 ·rw[H k (by omega) a (λe=>by have:=(h.lt _ (M _ e)).1;omega)];exact h.keep k u a
 ·rcases f with f | f
  ·exact⟨(h.lt k f).1,by have:=(h.lt k f).2;omega⟩
  ·omega
 ·rw[qj1,qov];exact jR F λg e=>d.block g (z g e) (by
   intro P;cases P;rcases hv _ e with h' | h'
   ·have:=(h.lt _ (M _ h')).1;omega
   ·omega)
 ·rcases hv g e with h' | h'
  ·exact .inl (M g h')
  ·exact .inr ⟨h',by have:=z g e;omega⟩
 ·by_cases I:i<L.length
  ·have⟨m,y,w,O,N,p⟩:=h4 i I;refine⟨m,y,by rw[qir I];exact w,by rw[qir (by omega)];exact O,q1u N (by omega) λB o n c e a=>H B (h.lt B (p B o n c e a)).2 (λP=>by have:=(h.lt B (p B o n c e a)).1;omega) (λP=>s y m _ P N B o n c e a rfl),λB o n c e a=>.inl (p B o n c e a)⟩
  ·have S:i=L.length:=by simp at hi;omega
   subst S;refine⟨l,x,by simp,by rw[<- h5];simp,?_,λB o n c e a=>.inr ?_⟩
   ·obtain⟨base,cap,rfl,R,D⟩:=hx;refine⟨base,cap,rfl,R,λa=>?_⟩;have⟨B,o,cs,Y,w,O,N,p,Z⟩:=D a;exact⟨B,o,cs,Y,w,by omega,by omega,(d.block B (by omega) (by intro e;cases e;omega)).t p,Z⟩
   ·obtain⟨base,cap,rfl,R,D⟩:=hx;have⟨B',o',cs,Y,w,O,N,p,Z⟩:=D a;cases e;cases w;omega
 ·refine H k u (λe=>by rcases hc with h' | h'<;>omega) (λe=>f (M k e))
end
section
open Go.RowKit Go.Shelf
attribute [local go_sem] Oper.semAt_some
def Tp.info29p:(Ya.info? 29).map (λi=>(i.zero,i.size,i.bytes))=some (some (.slice none 0 0),1,24):=by kernel_rfl
def Tp.und36:Ya.underlying 36=some (.slice 29):=by rw[Tp.und];exact Tryz.underlying36
def qbH(b:List Par)(q:Int)(Y j:Nat)(w0:qhr)(yb:Option qiG)(yc:Nat)(X:w0.heap[Y]?=some (.cells #[.slice yb b.length yc,q] 91 (0,0)))(s1:qr 0 w0.heap.size w0 (.slice yb b.length yc) b){s5:Array qhu}{f0:Nat × Nat}(d6:w0.heap[j]?=some (.cells s5 36 f0))(k7:YOk b q)(c:List Int)(k5:c.Pairwise (·<·))(r6:∀x∈c,0<=x/\x<b.length)(r7:c.length<=5)(q5:∀x:List Int,x.length=c.length->x.Nodup->(∀y∈x,y∈c)->POk b q x)(L0:List (List Int))(hL:L0.length+(jB c).length<=1000)(G0:Nat->Prop)(S:qhr)(hI:J5 j w0 L0 G0 S)(v:qhu)(hv:qg 0 S.heap.size S v c) :qis Ya 120 #[v,.pointer (some Y),.pointer (some j)] S λe W'=>e=.returned (.bool false)/\∃G',J5 j w0 (L0++q3D b c) G' W'/\Bod w0.heap.size w0.heap.size G0 G' S W':=by
 have⟨i0,r4,p3,n9,n8⟩:=qjx Tp.info29p;obtain⟨base,Q,rfl,x7,-⟩:=hv.cell;have r9:Y≠j:=λe=>by rw[e,d6] at X;cases X
 obtain⟨gx,c8⟩:∃gx,gx=pre Par.mx b b.length:=⟨_,rfl⟩;obtain⟨F,P⟩:∃F,F=S.heap.size:=⟨_,rfl⟩;have q0:q3D b c=(jB c).filter λo=>!o.isEmpty && qx b gx o:=by rw[c8];rfl
 rw[q0];have x0:=hI.size;refine(qjA (n:=6)).1 ?_;refine qnC Tp.x120 rfl trivial ?_ rfl;simp only[Tryz.ntmps120,qim,qhE,qi1,qib,qiA,qie,qif,qio,ql1,qii,qi7]
 gi_wp2_with (refine⟨trivial,?_⟩;gi_at_call 117;refine(qjA.2 (Zl _ _ _ _)).mono ?_;rintro e w2 ⟨rfl,rfl⟩)
 obtain⟨U,H⟩:∃U,U=S.alloc (.cells #[.slice base c.length Q] 29):=⟨_,rfl⟩;rw[<- H,<- P];have N:S.gb U none:=by rw[H];exact qhq _ _ none
 have x4:U.heap.size=F+1:=by rw[H,qhH,P]
 have l3:U.heap[F]?=some (.cells #[.slice base c.length Q] 29 (0,0)):=by rw[H,P];exact qhA _ _
 have s2:=(hv.kept N).mono (qhv _) N.size;have v2:=hI.sl;have s3:J5 j w0 L0 G0 U:=hI.stp (Jd (n1:=w0.heap.size) (B:=w0.heap.size) N) (qhv _) (qhv _);have r3:¬ G0 F:=λh=>by have:=(hI.lt _ h).2;omega
 have v1:w0.heap.size<=F:=by omega
 have v0:S.heap.size<=F:=by omega
 have⟨t8,a6,HI,u0,HL⟩:=ZW c8 P hI N hL;clear c8 P H hv N hL;refine yz rfl (by omega) (gf:=149) (lb:=#[.pointer (some F)]) rfl trivial (enters_of Tp.x149 (by kernel_rfl) rfl)
  (xA 5 F base Q c c (vQ (by omega) k5) (λx hx=>by have:=r6 x hx;have:=k7.len;omega) (Qj k5) r7 U l3 s2) (qns _ _) (λ_=>rfl) (G0:=G0) r3 (by omega) (q22)
  (λpr G W=>J5 j w0 (L0++(pr.map qld).filter λo=>!o.isEmpty && qx b gx o) G W/\Bod w0.heap.size w0.heap.size G0 G S W)
  (λ_ _ _ _=>False)
  (λs G A h k hk=>(h.1.lt k hk).2)
  (λs G A C h d=>⟨h.1.stp d (by omega) (by omega),d.tape.trans h.2.tape,qhB h.2.size d.size,λk hk hc hg=>(d.keep k (qi0 hk h.2.size) (.inl ⟨by have:=a6.out;omega,by have:=a6.out;omega⟩)).trans (h.2.keep k hk hc hg),h.2.fp⟩)
  (λ_ _ _ _ _ h _=>h)
  ⟨by simpa using s3,jV u0⟩
  (λx=>{ tmps:=#[.slice base c.length Q,.pointer (some Y),.pointer (some j),qhx,.bool false,x.2,.slice base c.length Q,.func (.func 149) #[] #[.pointer (some F)],x.2,qhx,qhx,qhx,qhx,qhx,qhx,qhx,qhx,qhx,qhx,qhx,qhx,qhx],defers:=[] }) ?assign ?body ?done ?stop
 case assign=>
  intro l x W K w
  gi_wp2
  exact w
 case body=>
  rintro l pr G x W ⟨O,hb⟩ hx ⟨t,ht⟩;have M:(L0++(pr.map qld).filter λo=>!o.isEmpty && qx b gx o).length<=1000:=by
   have h1:=qkb (λo=>!o.isEmpty && qx b gx o) (pr.map qld);have h2:=congrArg List.length ht;have h3:=HL.out;unfold jB at h3;simp only[qj1,qkk,qov] at h1 h2 ⊢;omega
  have x3:=O.size;have b9:=(O.keep Y (qA X) r9).trans X;have l6:qr 0 W.heap.size W (.slice yb b.length yc) b:=by
   obtain⟨b',c',e,hl,hr⟩:=s1;refine⟨b',c',e,hl,λr=>?_⟩;have⟨B,o,cs,fr,e1,e2,e3,e4,e5⟩:=hr r;exact⟨B,o,cs,fr,e1,e2,by omega,(O.keep B e3 (λe=>by cases e;rw[e4] at d6;cases d6)).trans e4,e5⟩
  obtain⟨V,p⟩:=hx;have I:=q5 x.1 p.1 p.2.1 p.2.2.1;have p5:x.1.length<=5:=by have:=p.1;omega
  obtain⟨f,x2⟩:=x;obtain⟨xb,xc,h9,-,-⟩:=V.cell;dsimp only at h9 I p5 p;subst h9;have c1:W.cell? Y=some (.slice yb b.length yc):=q8 b9 rfl;have c2:W.cell? ⟨Y,1,none⟩=some (.int .i64 q):=q8 b9 rfl;obtain⟨z,hz⟩:∃z,z=qx b gx f:=⟨_,rfl⟩;have k9:qis Ya 114 #[.agg #[.slice yb b.length yc,q],.slice xb f.length xc] W λe w'=>e=.returned (.bool z)/\W.gb w' none:=by
   rw[hz,t8];exact q2u 0 W.heap.size _ _ b q f W ⟨_,rfl,l6⟩ V (qhv _) k7 I
  have⟨m6,HZ⟩:=qE k9 hz;have s9:=qhp (show qg 0 W.heap.size W (.slice xb f.length xc) f from V);have⟨A7,T,HB,m5⟩:=j8 p O hb M;clear k9 hz V p O hb b9 l6 I ht M;by_cases r:f=[]
  ·subst r
   gi_wp2
   refine⟨trivial,?_⟩
   gi_wp2
   refine⟨G,jV (qhD _ _),?_,HB⟩;rw[qk1,qmh];simpa using T.out
  ·have u9:0<f.length:=qm6.2 r;have k8:f.isEmpty=false:=by cases f<;>simp_all
   have t4:=qhp r;clear r;cases z with
   | false=>
    gi_wp2_with (refine⟨trivial,?_⟩;gi_at_call 114;refine(CallsIn.inRound l (qjA.2 m6)).mono ?_;rintro e w5 ⟨rfl,u⟩)
    refine⟨G,jV u,?_,HB.trans (jV u)⟩;rw[qk1,qmh];simpa[k8,<- HZ.out] using T.out.stp (Jd (n1:=w0.heap.size) (B:=w0.heap.size) u) (qhv _) (qhv _)
   | true=>
    have⟨sv,g9,q1,q2,q3,q4⟩:=T.out.sg;generalize d7:(L0++(pr.map qld).filter λo=>!o.isEmpty && qx b gx o)=LL at q2 q4;rw[d7] at T m5;have t5:=qhp d7;clear d7;obtain⟨sa,sn,sc,rfl⟩:=zB q2;have x6:=m5.out;have l5:j<W.heap.size:=by omega
    have q7:(qjc sa sn sc).ownBlock≠some j:=λe=>by have:=(T.lt _ (q3 _ e)).1;omega
    gi_wp2_with (refine⟨trivial,?_⟩;gi_at_call 114;refine(CallsIn.inRound l (qjA.2 m6)).mono ?_;rintro e w5 ⟨rfl,u⟩;have i:=qhp (u.trans (qe w5 none));clear u)
    have s0:w5.drew.cell? j=some (.slice sa sn sc):=q8 (bk i q1) rfl;have⟨m4,m3,e6,t2⟩:=j8 q1 q2 q3 q4;clear q1 q2 q3 q4;refine KY (by rintro⟨_,_,h⟩;exact h) (by kernel_rfl) 5 (λw'=>w'.cell? j=some (.slice sa sn sc)) (by kernel_rfl) (by kernel_rfl) s0 (λhHeld=>?_);simp only[qhE,qi1,qib,qiA,qi6,qie,qif,qio,qii,qi7];refine tk 0 (h:=tk 1 (h:=?_));try go_frame
    refine rdc 2 λK w=>?_;go_simp;go_at_call 84;refine(Jv 0 w5.drew.heap.size _ f _ ((s9.kept i).mono (qhv _) i.size) (qhv _) (.inl t4) (by omega)).mono ?_;rintro e w6 ⟨v',rfl,d5,d8⟩;obtain⟨vb,vc,rfl,-,-⟩:=d8.cell;have s6:=d5.cl s0;have⟨Z,t7⟩:=qE d5 d8;clear d5 d8;refine w.out _ _ (by first | exact hHeld | exact s7 | exact s6 | exact(qhq _ _ none).cl hHeld) (λhHeld=>?_);clear w K;try go_frame
    refine rdc 3 λK w=>?_;go_simp;refine w.out _ _ (by first | exact hHeld | exact s7 | exact s6 | exact(qhq _ _ none).cl hHeld) (λhHeld=>?_);clear w K;try go_frame
    refine rdc 4 λK w=>?_;have l7:=jR (C:=w6) m3 (λg e=>(i.trans Z).block g (T.lt g (e6 g e)).2 (by simp));refine step_append_lies _ (by rfl) _ _ _ (by rfl) w0.heap.size 29 i0 _ 1 24 Tp.und36 r4 p3 n9 n8 rfl (by omega) (.slice sa sn sc) LL.length g9 (by rfl) (by exact l7.alloc _) ⟨w6.heap.size,0,none⟩ 1 1 [.slice vb f.length vc] (by rfl) (by rfl) (qje (cs:=#[.slice vb f.length vc]) (t:=29) (fr:=(0,0)) (qhA w6 _)) (by simp[qjD]) (by omega) (by unfold qlg;omega) (by omega) (by have:=i.out.size;have:=Z.out.size;simp;omega) (w6.heap.size+1) (by simp) ?_;intro g' cp w7 L a b6 b0;have c9:W.gb w7 (qjc sa sn sc).ownBlock:=(((i.trans Z).trans (qhq w6 (.cells #[.slice vb f.length vc] 29) none)).but _).trans ⟨a.os,a.tape,a.output,a.size,a.block⟩;have c3:w7.heap[j]?=some (.cells #[.slice sa sn sc] 36 (0,0)):=(c9.block j l5 (λe=>q7 e.symm)).trans m4;have s7:w7.cell? j=some (.slice sa sn sc):=q8 c3 rfl;have z7:w7.frozen? ⟨j,0,none⟩=false:=qn c3;have h6:(w6.alloc (.cells #[.slice vb f.length vc] 29)).gb w7 (qjc sa sn sc).ownBlock:=a;have k0:qg W.heap.size w7.heap.size w7 (.slice vb f.length vc) f:=(((t7.alloc (.cells #[.slice vb f.length vc] 29)).mono i.size (qhv _)).kept h6 (λR e=>.inl (T.lt R (e6 R e.symm.symm)).2)).mono (qhv _) (by have:=h6.size;rw[qhH] at this;omega);have⟨t1,t3,t9,u5,t6⟩:=ZW k0 L c9 b6 b0;clear L a b6 b0 h6 k0 c3 c9 l7;refine w.out _ _ (by first | exact hHeld | exact s7 | exact s6 | exact(qhq _ _ none).cl hHeld) (λhHeld=>?_);clear w K;try go_frame
    refine⟨by kernel_rfl,?_⟩;simp only[qig,qit];go_wp2;have⟨q6,k6⟩:=T.out.push m4 m3 e6 t2 t9 t3 (λg e=>by
     obtain rfl:g'=g:=by simpa[qix] using e
     rcases u5 with h | h
     ·exact .inl h
     ·right;have:=i.out.size;have:=Z.out.size;omega) (λg e=>by
     obtain rfl:g'=g:=by simpa[qix] using e
     exact t6) t1 rfl
    refine⟨_,k6 U.heap.size F (by omega) (by omega),?_,HB.trans (k6 _ _ (by omega) (by omega))⟩;rw[qk1,qmh,<- qk8,t5];simpa[k8,<- HZ.out] using q6
 case done=>
  rintro D ys G W hD h8 ⟨O,hb⟩ w l9;have⟨T,HB,s8⟩:=ze O hb h8;clear O hb h8
  gi_wp2
  have d:Stp U.heap.size F G W (W.putObj D (.deferred none)):=kD _ hD l9;have p9:=HB.out.size;have O:=T.out.stp d (by omega) (by omega);rw[s8] at O;refine⟨by simp,.inl ⟨_,_,rfl,qnA w,?_⟩⟩;refine⟨.bool false,by simp[qke,Tryz.results120,go_sem],rfl,G,O,d.tape.trans HB.tape,qhB p9 d.size,λk hk hc hg=>(d.keep k (by omega) (.inl ⟨by have:=a6.out;omega,by have:=a6.out;omega⟩)).trans (HB.keep k hk hc hg),HB.fp⟩
 case stop=>
  rintro D c pr G W hD ⟨t,ht⟩ h w l9;exact h.elim
end
section
open Go.RowKit
abbrev Rec:=List (List Int) × Nat
def JQ(l:List Int):Int:=l[0]?.getD 0
def q7q(L:List (List Int)):List Int:=L[L.length - 1]?.getD []
def okF(p:Rec)(s:List Int):Bool:=!(decide (0<p.1.length) && decide (JQ s<=JQ (q7q p.1))) && decide (p.2 &&& zj s=0)
def QV(p:Rec)(s:List Int):Rec:=(p.1++[s],p.2 ||| zj s)
def jy(S:List (List Int))(a:List Rec):List Rec:=a.flatMap λp=>(S.filter (okF p)).map (QV p)
def qbG:Nat->List (List Int)->Nat->List Rec->Option (Option (List (List Int)))
 | 0,_,_,_=>none
 | n+1,S,all,a=>match a.find? λp=>p.2 == all with
  | some p=>some (some p.1)
  | none=>if(jy S a).length<=1000 then(if jy S a=[] then some none else qbG n S all (jy S a)) else none
def xg(w:qhr)(b d:qhu)(p:Rec):Prop:=RowsIn 0 w.heap.size w b p.1/\d=.int .u8 (p.2:Nat)/\∀a n c,b=.slice a n c->n<=c
def QD(w:qhr)(v:qhu)(R:List Rec):Prop :=
 ∃base b,v=.slice base R.length b /\
  (R≠[]->∃B o a e,base=some ⟨B,o,none⟩/\B<w.heap.size/\w.heap[B]?=some (.cells a 133 e) /\
   ∀i,i<R.length->∃p d c,R[i]?=some p/\a[o+i*2]?=some d/\a[o+(i*2+1)]?=some c/\xg w d c p)
def xg.kept{w w':qhr}{e d:qhu}{p:Rec}(h:xg w e d p)(a:w.gb w' none):xg w' e d p:=⟨(h.1.kept a).mono (qhv _) a.size,h.2⟩
def QD.at{w:qhr}{base:Option qiG}{d k:Nat}{R:List Rec}(h:QD w (.slice base R.length d) R)(b:k<R.length):∃B o p a n c,base=some ⟨B,o,none⟩/\R[k]?=some p/\n=p.1.length/\w.cell? ⟨B,o+k*2,none⟩=some (.slice a n c)/\w.cell? ⟨B,o+k*2+1,none⟩=some (.int .u8 (p.2:Nat))/\RowsIn 0 w.heap.size w (.slice a n c) p.1/\n<=c:=by
 obtain⟨f,j,e,l⟩:=h;cases e;have⟨B,o,z,x,v,y,i,u⟩:=l (by intro e;rw[e] at b;simp at b);obtain⟨p,C,A,t,s,r,g,rfl,q⟩:=u k b;obtain⟨a,c,rfl,-,-⟩:=g.cell;exact⟨B,o,p,a,_,c,v,t,rfl,by simp[qiq,i,s],by rw[qnb];simp[qiq,i,r],g,q _ _ _ rfl⟩
def Ji(R:List (qhu × qhu)):List qhu:=R.flatMap λx=>[x.1,x.2]
def q7a(R:List (qhu × qhu))(i:Nat)(h:i<R.length):(Ji R)[i*2]?=(R[i]?).map qld/\(Ji R)[i*2+1]?=(R[i]?).map Prod.snd:=by
 induction R generalizing i with
 | nil=>simp at h
 | cons a t b=>
  cases i with
  | zero=>simp[Ji]
  | succ i=>
   have:=b i (by simpa using h);rw[show(i+1)*2=i*2+2 by omega];simpa[Ji] using this
def QD.own{k:Nat}{w:qhr}{v:qhu}{R:List Rec}{C:List (qhu × qhu)}(h:w.ownsRow k 133 2 v R.length (Ji C))(z:C.length=R.length)(r:∀(i:Nat) (p:Rec) (x:qhu × qhu),R[i]?=some p->C[i]?=some x->xg w x.1 x.2 p):QD w v R:=by
 obtain⟨B,s⟩:=h;rcases s with⟨rfl,t⟩ | ⟨g,d,c,rfl,A,j,y,hm,u,o⟩
 ·have:R=[]:=qja t;subst this;exact⟨none,0,rfl,λh=>absurd rfl h⟩
 ·refine⟨_,d,rfl,λ_=>⟨g,0,c,_,rfl,(qhs.1 j).1,j,λi q=>?_⟩⟩;have b:=(q7a C i (by omega)).1;have a:=(q7a C i (by omega)).2;have e:C[i]?=some C[i]:=qhz (by omega);have f:R[i]?=some R[i]:=qhz q;rw[e] at b a;rw[<- o,qk4 (by omega)] at b a;refine⟨R[i],_,_,f,by simpa using b,by simpa using a,r i _ _ f e⟩
def q8o{w:qhr}{W:Option qiG}{nc B:Nat}{L:List (List Int)}{x:qhu}{l:List Int}(S:qi4)(hN:RowsIn 0 w.heap.size w (.slice W L.length nc) L)(hx:w.cell? B=some x)(p:qg 0 w.heap.size w x l)(hl:L.length<=1000) :∃g c R,(ql7 #[36,36] S #[.slice W L.length L.length,.slice (some B) 1 1]).run Ya w=.ok (.slice (some ⟨g,0,none⟩) (L.length+1) c) R/\w.gb R none /\RowsIn 0 R.heap.size R (.slice (some ⟨g,0,none⟩) (L.length+1) c) (L++[l])/\L.length+1<=c:=by
 have⟨X,D,z,n,u⟩:=qjx Tp.info29p;obtain⟨k,h,rfl,-,-⟩:=p.cell;have d:∀j v,([.slice k l.length h]:List qhu)[j]?=some v->w.cell? ((⟨B,0,none⟩:qiG).add j)=some v:=λj v r=>by
  have:j=0:=by have:=(qi3.1 r).1;simp at this;omega
  subst this;simp at r;subst r;simpa[Addr.add] using hx
 have s:∀(a:List qhu) (F:Array qhu) (c:Nat),a.length=L.length+1->(∀i,i<L.length+1->∃m y,(L++[l])[i]?=some m/\a[i]?=some y/\qg 0 w.heap.size w y m) ->
   RowsIn 0 (w.drew.alloc (.cells (a.toArray++F) 29)).heap.size (w.drew.alloc (.cells (a.toArray++F) 29)) (.slice (some w.heap.size) (L.length+1) c) (L++[l]):=by
  intro a F c I hv;have hh:(w.drew.alloc (.cells (a.toArray++F) 29)).heap[w.heap.size]?=some (.cells (a.toArray++F) 29 (0,0)):=qhA w.drew _;have hg:w.gb (w.drew.alloc (.cells (a.toArray++F) 29)) none:=(qe w none).t (qhq _ _ none);refine⟨_,c,by simp,by simp;omega,λ_=>⟨w.heap.size,0,_,_,rfl,qiu _,(qhs.1 hh).1,hh,λi f=>?_⟩⟩;have⟨m,y,O,e2,e3⟩:=hv i (by simpa using f);refine⟨m,y,O,?_,(e3.kept hg).mono (qhv _) hg.size⟩;rw[qi6,qnt (by simp at f ⊢;omega)];simpa using e2
 obtain⟨base,a9,e,-,hc⟩:=hN.cell;cases e;cases W with
 | none=>
  have h0:L=[]:=by
   refine qj6 λq=>?_;have⟨B,o,O,_⟩:=hc q;cases O
  subst h0;have A:=run_append_nil (P:=Ya) w 36 S 29 X _ Tp.und36 D z ⟨B,0,none⟩ 1 1 [.slice k l.length h] (by rw[n];rfl) d (by omega) (by omega) (by rw[u];omega);have:=s [.slice k l.length h] (qki (qjc none 0 0).cells (qm1 w 1 0 29 - 1)) (qm1 w 1 0 29) (by simp) (λi f=>by
   have:i=0:=by simp at f;omega
   subst this;exact⟨l,_,by simp,by simp,p⟩)
  exact⟨_,_,_,A,(qe w none).t (qhq _ _ none),this,Qt _ _ _ _⟩
 | some b=>
  by_cases q:L=[]
  ·subst q;have A:=run_append_grow (P:=Ya) w 36 S 29 X _ Tp.und36 D z b 0 0 [] (by simp) (λj v r=>by simp at r) ⟨B,0,none⟩ 1 1 [.slice k l.length h] (by rw[n];rfl) d (by omega) (by omega) (growslice_fits (by omega) (by rw[u];omega));have:=s [.slice k l.length h] (qki (qjc none 0 0).cells (qm1 w 1 0 29 - 1)) (qm1 w 1 0 29) (by simp) (λi f=>by
    have:i=0:=by simp at f;omega
    subst this;exact⟨l,_,by simp,by simp,p⟩)
   simp only[qii,qi6] at A;exact⟨_,_,_,by simpa using A,(qe w none).t (qhq _ _ none),by simpa using this,Qt _ _ _ _⟩
  ·obtain⟨V,o,O,-,-,-,h4⟩:=hc q;cases O;obtain⟨a,I,M⟩:∃a:List qhu,a.length=L.length/\∀i,i<L.length->∃m y,L[i]?=some m/\a[i]?=some y/\w.cell? ⟨V,o+i,none⟩=some y/\qg 0 w.heap.size w y m:=by
    refine⟨(qil L.length).map λi=>(w.cell? ⟨V,o+i,none⟩).getD qhx,by simp,λi f=>?_⟩;have⟨m,y,U,G,T⟩:=h4 i f;exact⟨m,y,U,by simp[f,G],G,T⟩
   have C:∀j v,a[j]?=some v->w.cell? ((⟨V,o,none⟩:qiG).add j)=some v:=λj v r=>by
    have Y:j<L.length:=by have:=(qi3.1 r).1;omega
    have⟨m,y,U,G,T,Z⟩:=M j Y;rw[G] at r;cases r;exact kf T
   have A:=run_append_grow (P:=Ya) w 36 S 29 X _ Tp.und36 D z ⟨V,o,none⟩ L.length L.length a (by rw[n];omega) C ⟨B,0,none⟩ 1 1 [.slice k l.length h] (by rw[n];rfl) d (by omega) (by omega) (growslice_fits (by omega) (by rw[u];omega));obtain⟨Q,H⟩:∃Q,Q=qjc k l.length h:=⟨_,rfl⟩;have:=s (a++[Q]) (qki (qjc none 0 0).cells (qm1 w (L.length+1) L.length 29 - (L.length+1))) (qm1 w (L.length+1) L.length 29) (by simp;omega) (λi f=>by
    by_cases N:i<L.length
    ·have⟨m,y,U,G,T,Z⟩:=M i N;exact⟨m,y,by rw[qir N];exact U,by rw[qir (by omega)];exact G,Z⟩
    ·have:i=L.length:=by omega
     subst this;exact⟨l,Q,by simp,by rw[<- I];simp,by rw[H];exact p⟩)
   rw[H] at this;have e:a.toArray++[qjc k l.length h].toArray=(a++[qjc k l.length h]).toArray:=by simp
   rw[e] at A;exact⟨_,_,_,A,(qe w none).t (qhq _ _ none),this,Qt _ _ _ _⟩
def YJ{d:Array qjn}{o:qjn}{a:Act}{w:qhr}{K:Act->qhr->Prop}{Q:Exit->Act->qhr->Prop}{E:Prop}(f:o.guard=none)(s x:qiy)(e:o.op=.call { callee:=.builtin .append,args:=#[s,x],argTypes:=#[36,36] }){nb:Option qiG}{nc B:Nat}{L:List (List Int)}{y:qhu}{l:List Int}(hs:a.eval s=.slice nb L.length L.length)(hx:a.eval x=.slice (some B) 1 1)(hN:RowsIn 0 w.heap.size w (.slice nb L.length nc) L)(hy:w.cell? B=some y)(hyi:qg 0 w.heap.size w y l)(hl:L.length<=1000)(h:∀g b c,w.gb c none->RowsIn 0 c.heap.size c (.slice (some ⟨g,0,none⟩) (L.length+1) b) (L++[l])->L.length+1<=b->K (a.put o.dst (.slice (some ⟨g,0,none⟩) (L.length+1) b)) c) :if qip o (qjt d a.tmps)=true then Oper.wp Ya o a w K Q else E:=by
 rw[if_pos (by simp[qip,f])];have⟨g,b,c,i,n,k,j⟩:=q8o o.type hN hy hyi hl;unfold Oper.wp qkA;simp only[e,resolve,invoke,builtin,qjo,qmo,qjl,qmc,qll,qmq,hs,hx,i];exact h g b c n k j
def qfD{b:List Par}{d:Int}{Y j:Nat}{w0:qhr}{n:Option qiG}{l:Nat}(q:w0.heap[Y]?=some (.cells #[.slice n b.length l,d] 91 (0,0)))(u:qr 0 w0.heap.size w0 (.slice n b.length l) b){w:Array qhu}{Z:Nat × Nat}(r:w0.heap[j]?=some (.cells w 36 Z))(g:YOk b d)(p:∀x:List Int,x.Nodup->(∀y∈x,0<=y/\y<b.length)->POk b d x)(z:((jZ (qO b.length) 0).flatMap jB).length<=1000) :Cb w0.heap.size (qO b.length) 120 #[.pointer (some Y),.pointer (some j)] (λdone G W=>J5 j w0 (vR b done) G W):=by
 refine⟨?_,?_,enters_of Tp.x120 (by kernel_rfl) rfl,?_⟩
 ·intro s G A C h Q;exact h.stp (Jd (n1:=w0.heap.size) (B:=w0.heap.size) Q) (qhv _) (qhv _)
 ·exact λs G A h k P=>(h.lt k P).2
 ·rintro done G W v c T M - f ⟨t,N⟩;have⟨X,D,h3⟩:=q77 f;have i:(vR b done).length+(jB c).length<=1000:=by
   have V:∀L:List (List Int),(vR b L).length<=(L.flatMap jB).length:=by
    intro L;induction L with
    | nil=>simp[vR]
    | cons a L F=>
     have:=qkb (λo:List Int=>!o.isEmpty && qx b (pre Par.mx b b.length) o) (jB a);simp only[vR,qkl,qj1,q3D] at F ⊢;omega
   rw[N] at z;have h5:=V done;simp only[qp7,qkl,List.flatMap_nil,qj1] at z;omega
  refine(qbH b d Y j w0 n l q u r g c X D (by have:=g.len;omega) (λx _ O I=>p x O λy H=>D y (I y H)) (vR b done) i G W T v M).mono ?_;rintro e W' ⟨R,G',U,S⟩;exact⟨R,G',by rw[q63];exact U,S⟩
def qe0{a:List Par}{d:Int}{Y p:Nat}{w0:qhr}{r:Option qiG}{q:Nat}(n:w0.heap[Y]?=some (.cells #[.slice r a.length q,d] 91 (0,0)))(o:qr 0 w0.heap.size w0 (.slice r a.length q) a)(f:w0.heap[p]?=some (.cells #[.slice none 0 0] 36 (0,0)))(j:YOk a d)(l:∀x:List Int,x.Nodup->(∀y∈x,0<=y/\y<a.length)->POk a d x)(t:((jZ (qO a.length) 0).flatMap jB).length<=1000){b:Option qiG}{k:Nat}(u:qg 0 w0.heap.size w0 (.slice b a.length k) (qO a.length)) :qis Ya 82 #[.slice b a.length k,.func (.func 120) #[] #[.pointer (some Y),.pointer (some p)]] w0 λe v=>e=.returned (.bool false)/\∃w,J5 p w0 (vR a (jZ (qO a.length) 0)) w v:=by
 have z:a.length<=5:=j.len;have h:=qgm (b:=b) (c:=k) (ll:=qO a.length) (qfD n o f j l t) (by rw[z6];omega) (vQ (by rw[z6];omega) (xB _)) (by rw[z6];exact u) (G:=ZP) ⟨rfl,rfl,rfl,qhv _,λ_ _ _=>rfl,λk h=>h.elim,qA f,_,[],f,qjF _ _ _ _,λg e=>by simp[qix] at e,λi s=>by simp[vR] at s⟩;rw[z6] at h;exact h
def J5.rows{k:Nat}{w0:qhr}{L:List (List Int)}{G:Nat->Prop}{W:qhr}(h:J5 k w0 L G W)(a:L≠[])(C:L.length<=1000):∃B c,W.heap[k]?=some (.cells #[.slice (some ⟨B,0,none⟩) L.length c] 36 (0,0))/\w0.heap.size<=B/\zn w0.heap.size W.heap.size B 0 W L:=by
 have⟨w,f,s,b,D,r⟩:=h.sg;obtain⟨A,b⟩:=b;rcases b with⟨rfl,t⟩ | ⟨g,e,d,rfl,q,p,z,hm,y,n⟩
 ·exact absurd (qja t) a
 ·refine⟨g,e,s,q,d,p,λi o=>?_⟩;obtain⟨l,x,v,j,u,-⟩:=r i o;refine⟨l,x,v,?_,u⟩;rw[<- n,qk4 (by omega)] at j;simpa using j
def zn.rows{a d B o:Nat}{w:qhr}{L:List (List Int)}(h:zn a d B o w L)(e:B<d)(b:a<=B)(j:L.length<=1000)(c:Nat):RowsIn a d w (.slice (some ⟨B,o,none⟩) L.length c) L:=by
 obtain⟨i,g,f⟩:=h;exact⟨_,c,rfl,by omega,λ_=>⟨B,o,i,_,rfl,b,e,g,f⟩⟩
def q9y:∀m n:Fin 32,bits .and .u8 (m.1:Int) (n.1:Int)=((m.1 &&& n.1:Nat):Int):=by decide
def qcn:∀m n:Fin 32,bits .or .u8 (m.1:Int) (n.1:Int)=((m.1 ||| n.1:Nat):Int):=by decide
def Tp.info133p:(Ya.info? 133).map (λi=>(i.zero,i.size,i.bytes))=some (some (.agg #[.slice none 0 0,.int .u8 0]),2,32):=by kernel_rfl
def Tp.und134:Ya.underlying 134=some (.slice 133):=by rw[Tp.und];exact Tryz.underlying134
def RowsIn.keptT{k a O:Nat}{w j:qhr}{v:qhu}{L:List (List Int)}(h:RowsIn k a w v L)(n:w.gb j (some O)){f:Array qhu}{d:qi4}{C:Nat × Nat}(b:w.heap[O]?=some (.cells f d C))(z:d≠3)(c:d≠29):RowsIn k a j v L:=by
 obtain⟨base,g,rfl,y,t⟩:=h;refine⟨base,g,rfl,y,λu=>?_⟩;have⟨B,o,I,A,H,G,F,p,D⟩:=t u;refine⟨B,o,I,A,H,G,F,blk n (λe=>?_) p,λi a=>?_⟩
 ·cases e;rw[p] at b;cases b;exact c rfl
 ·have⟨l,x,s,r,q⟩:=D i a;exact⟨l,x,s,r,q.keptT n b z⟩
def jM(a:Nat)(w:qhr)(v:qhu)(R:List Rec):Prop :=
 ∃C:List (qhu × qhu),w.ownsRow a 133 2 v R.length (Ji C)/\C.length=R.length/\∀(i:Nat) (p:Rec) (x:qhu × qhu),R[i]?=some p->C[i]?=some x->xg w x.1 x.2 p
def jM.nil(a:Nat)(w:qhr):jM a w (.slice none 0 0) []:=⟨[],qjF _ _ _ _,rfl,λi p x h=>by simp at h⟩
def jM.recs{a:Nat}{w:qhr}{v:qhu}{R:List Rec}(h:jM a w v R):QD w v R:=by
 obtain⟨C,d,c,b⟩:=h;exact QD.own d c b
def jM.kept{a:Nat}{w w':qhr}{v:qhu}{R:List Rec}(h:jM a w v R)(d:w.gb w' none):jM a w' v R:=by
 obtain⟨C,f,k,j⟩:=h;exact⟨C,jR f λg e=>d.block g (f.lt g e).2 (by simp),k,λi p x o l=>(j i p x o l).kept d⟩
def q8q(C:List (qhu × qhu))(x:qhu × qhu):Ji (C++[x])=Ji C++[x.1,x.2]:=by simp[Ji]
def xg.app{i n:Nat}{w d:qhr}{v f e:qhu}{h:List qhu}{p:Rec}(b:xg w f e p)(j:w.ownsRow i 133 2 v n h)(a:w.gb d v.ownBlock):xg d f e p:=by
 refine⟨?_,b.2⟩;rcases j.2 with⟨rfl,_⟩ | ⟨g,l,k,rfl,o,c,_⟩
 ·exact(RowsIn.kept b.1 a (by simp[qix])).mono (qhv _) a.size
 ·exact(RowsIn.keptT b.1 (O:=g) a c (by decide) (by decide)).mono (qhv _) a.size
def q1g(S:List (List Int))(b:List Rec):(jy S b).length<=b.length*S.length:=by
 unfold jy;induction b with
 | nil=>simp
 | cons a t c=>
  have:=qkb (okF a) S;simp only[qkl,qj1,qkk,qhE];rw[qoc];omega
def jM.push{e:Nat}{w d:qhr}{v j:qhu}{R:List Rec}{C:List (qhu × qhu)}{h g:qhu}{p:Rec}(t:w.ownsRow e 133 2 v R.length (Ji C))(k:C.length=R.length)(s:∀(i:Nat) (p:Rec) (x:qhu × qhu),R[i]?=some p->C[i]?=some x->xg w x.1 x.2 p)(r:w.gb d v.ownBlock)(b:d.ownsRow e 133 2 j (R.length+1) (Ji C++[h,g]))(l:xg d h g p):jM e d j (R++[p]):=by
 refine⟨C++[(h,g)],by rw[q8q,qj1];exact b,by simp[k],λi q x a c=>?_⟩;by_cases o:i<R.length
 ·rw[qir o] at a;rw[qir (by omega)] at c;exact(s i q x a c).app t r
 ·have f:i=R.length:=by
   have:=(qi3.1 a).1;simp at this;omega
  subst f;rw[qjv (qhv _)] at a;rw[qjv (by omega)] at c;simp[k] at a c;subst a c;exact l
def qhd(S:List (List Int))(a:List Rec):Prop:=a.length<=1000/\∀p∈a,(∀r∈p.1,r∈S)/\p.2<32/\p.1.length<=100
def q6H(S:List (List Int))(b:Nat)(R:List (List Int))(v:qhu)(w:qhr)(m:Nat):Prop:=∃a,QD w v a/\qhd S a/\(∀p∈a,p.1.length+m<=100)/\qbG m S b a=some (some R)
open Classical in
noncomputable def JM(P:Nat->Prop):Nat->Nat
 | 0=>0
 | n+1=>if P (JM P n) then JM P n else n+1
def q4k(P:Nat->Prop):∀n,JM P n<=n
 | 0=>qhv _
 | n+1=>by
  have:=q4k P n;unfold JM;split<;>omega
def xH(P:Nat->Prop):∀n m,m<=n->P m->P (JM P n)/\JM P n<=m
 | 0,m,h,a=>by
  obtain rfl:m=0:=by omega
  exact⟨a,qhv _⟩
 | n+1,m,h,a=>by
  unfold JM;split
  ·rename_i b
   refine⟨b,?_⟩;by_cases hm:m<=n
   ·exact(xH P n m hm a).2
   ·have:=q4k P n;omega
  ·rename_i b
   have:¬ m<=n:=λhm=>b (xH P n m hm a).1;obtain rfl:m=n+1:=by omega
   exact⟨a,qhv _⟩
noncomputable def q7b(S:List (List Int))(a:Nat)(R:List (List Int))(v:qhu)(w:qhr):Nat:=JM (q6H S a R v w) 100
def q67{S:List (List Int)}{a:Nat}{R:List (List Int)}{v:qhu}{w:qhr}{m:Nat}(hm:m<=100)(h:q6H S a R v w m):q6H S a R v w (q7b S a R v w):=(xH _ 100 m hm h).1
def q40{S:List (List Int)}{a:Nat}{R:List (List Int)}{v:qhu}{w:qhr}{m:Nat}(hm:m<=100)(h:q6H S a R v w m):q7b S a R v w<=m:=(xH _ 100 m hm h).2
def q6c{S:List (List Int)}{a:List Rec}{k:Nat}{p:Rec}(h:a[k]?=some p):jy S (a.take (k+1))=jy S (a.take k)++(S.filter (okF p)).map (QV p):=by
 rw[qj7,h];simp[jy]
def q1n{S:List (List Int)}{a:List Rec}{q:Rec}(h:q∈jy S a):∃p∈a,∃s∈S,q=QV p s:=by
 simp only[jy,qmE,qlp,qmk] at h;obtain⟨p,c,s,⟨b,-⟩,rfl⟩:=h;exact⟨p,c,s,b,rfl⟩
def Zt(z:Array qhu)(h:z.size=123):∃t:Nat->qhu,(∀(j:Nat) (v:qhu),z[j]?=some v->t j=v)/\z=#[t 0,t 1,t 2,t 3,t 4,t 5,t 6,t 7,t 8,t 9,t 10,t 11,t 12,t 13,t 14,t 15,t 16,t 17,t 18,t 19,t 20,t 21,t 22,t 23,t 24,t 25,t 26,t 27,t 28,t 29,t 30,t 31,t 32,t 33,t 34,t 35,t 36,t 37,t 38,t 39,t 40,t 41,t 42,t 43,t 44,t 45,t 46,t 47,t 48,t 49,t 50,t 51,t 52,t 53,t 54,t 55,t 56,t 57,t 58,t 59,t 60,t 61,t 62,t 63,t 64,t 65,t 66,t 67,t 68,t 69,t 70,t 71,t 72,t 73,t 74,t 75,t 76,t 77,t 78,t 79,t 80,t 81,t 82,t 83,t 84,t 85,t 86,t 87,t 88,t 89,t 90,t 91,t 92,t 93,t 94,t 95,t 96,t 97,t 98,t 99,t 100,t 101,t 102,t 103,t 104,t 105,t 106,t 107,t 108,t 109,t 110,t 111,t 112,t 113,t 114,t 115,t 116,t 117,t 118,t 119,t 120,t 121,t 122]:=by
 have a:=QQ z;rw[h] at a;exact⟨λj=>z[j]?.getD qhx,λj v e=>by show z[j]?.getD qhx=v;rw[e];rfl,a.t rfl⟩
def swp(s:List Int)(i:Nat):List Int:=(s.set i (s[i+1]?.getD 0)).set (i+1) (s[i]?.getD 0)
def q75(s:List Int)(i:Nat):(swp s i).length=s.length:=by simp[swp]
def ZA(a:List (List Int) × List (List Int))(m:List Int):List (List Int) × List (List Int):=if m∈a.1 then a else(a.1++[m],a.2++[m])
def exp1(n:Nat)(a:List (List Int) × List (List Int))(s:List Int):List (List Int) × List (List Int):=(qil (n - 1)).foldl (λa i=>ZA a (swp s i)) a
def qc3(n:Nat)(K a:List (List Int)):List (List Int) × List (List Int):=a.foldl (exp1 n) (K,[])
def jI(a:List Par)(c:List (List Int)):Bool × List Int:=c.foldl (λb s=>if qx a (pre Par.mx a a.length) (zr s)=true then(true,if b.1=true/\q1B (zr s) b.2=false then b.2 else zr s) else b) (false,[])
def okS(b:List Par)(a:Int)(s:List Int):Bool:=decide (s.length=5) && (decide (zr s).Nodup && ((zr s).all (λx=>decide (0<=x/\x<b.length)) && decide (qS b (zr s)<=a)))
def Qn{b:List Par}{a:Int}{s:List Int}(h:okS b a s=true):s.length=5/\POk b a (zr s):=by
 simp only[okS,qic,decide_eq_true_eq,qiB] at h;obtain⟨f,e,d,c⟩:=h;exact⟨f,d,e,c,by have:=q0x s (λy=>y != -1);unfold zr;omega⟩
def q1m(c:List Par)(b:Int)(n:Nat):Nat->List (List Int)->List (List Int)->Int->Option (Option (Int × List Int))
 | 0,_,_,_=>none
 | f+1,K,a,d=>if a.all (okS c b)=true/\a.length<=1000 then
   (if(jI c a).1=true then some (some (d,(jI c a).2))
    else if(qc3 n K a).2.length<=1000 then(if(qc3 n K a).2=[] then some none else q1m c b n f (qc3 n K a).1 (qc3 n K a).2 (d+1)) else none)
  else none
def kP(L:List (List Int)):List qhu:=L.flatMap λs=>s.map (qid .i64)
def q9c{L:List (List Int)}(h:∀s∈L,s.length=5)(i:Nat)(s:List Int)(a:L[i]?=some s)(d:Nat)(g:d<5):(kP L)[i*5+d]?=some (.int .i64 (s[d]?.getD 0)):=by
 induction L generalizing i with
 | nil=>simp at a
 | cons b L c=>
  have f:=h b (by simp);unfold kP;rw[qkl];cases i with
  | zero=>
   simp at a;subst a;rw[qir (by simp;omega),Nat.zero_mul,qi6,qjE,qhz (by omega)];rfl
  | succ i=>
   rw[qjv (by simp;omega),qkk,f,show(i+1)*5+d - 5=i*5+d by omega];exact c (λt e=>h t (by simp[e])) i (by simpa using a)
def q6p(L:List (List Int))(s:List Int):kP (L++[s])=kP L++s.map (qid .i64):=by simp[kP]
def jr(w:qhr)(v:qhu)(L:List (List Int)):Prop :=
 ∃base a,v=.slice base L.length a /\
  (L≠[]->∃B o b c,base=some ⟨B,o,none⟩/\w.heap[B]?=some (.cells b 118 c)/\∀i s,L[i]?=some s->∀d,d<5->b[o+i*5+d]?=some (.int .i64 (s[d]?.getD 0)))
def jr.kept{w w':qhr}{v:qhu}{L:List (List Int)}(h:jr w v L)(i:∀(k:Nat) (d:Array qhu) (a:Nat × Nat),w.heap[k]?=some (Obj.cells d 118 a)->w'.heap[k]?=some (Obj.cells d 118 a)):jr w' v L:=by
 obtain⟨base,f,rfl,g⟩:=h;refine⟨base,f,rfl,λe=>?_⟩;have⟨B,o,d,a,p,l,j⟩:=g e;exact⟨B,o,d,a,p,i B _ _ l,j⟩
def jr.keptM{w c:qhr}{v:qhu}{L:List (List Int)}{M:Nat}(h:jr w v L)(d:w.gb c (some M))(hm:∀b a,w.heap[M]?≠some (Obj.cells b 118 a)):jr c v L:=h.kept λk b a e=>(d.block k (qA e) (λh=>hm b a (by cases h;exact e))).t e
def zV.not{w:qhr}{M:Nat}{K:List (List Int)}(h:zV w M K)(d:Array qhu)(t:qi4)(c:Nat × Nat):w.heap[M]?≠some (Obj.cells d t c):=by
 obtain⟨f,a,b,-⟩:=h;rw[b];intro e;cases e
def jr.own{e:Nat}{w:qhr}{v:qhu}{L:List (List Int)}(h:w.ownsRow e 118 5 v L.length (kP L))(p:∀s∈L,s.length=5):jr w v L:=by
 obtain⟨y,q⟩:=h;rcases q with⟨rfl,r⟩ | ⟨g,b,a,rfl,x,k,u,hm,t,f⟩
 ·have:L=[]:=qja r;subst this;exact⟨none,0,rfl,λh=>absurd rfl h⟩
 ·refine⟨_,b,rfl,λ_=>⟨g,0,a,_,rfl,k,λi s c d o=>?_⟩⟩;have j:=(qi3.1 c).1;have:=q9c p i s c d o;rw[<- f,qk4 (by omega)] at this;simpa using this
def jr.at{w:qhr}{base:Option qiG}{n d k:Nat}{L:List (List Int)}(h:jr w (.slice base n d) L){s:List Int}(b:L[k]?=some s):∃B o,base=some ⟨B,o,none⟩/\B<w.heap.size/\w.cell? ⟨B,o+k*5,none⟩=some (.int .i64 (s[0]?.getD 0))/\w.cell? ⟨B,o+k*5+1,none⟩=some (.int .i64 (s[1]?.getD 0))/\w.cell? ⟨B,o+k*5+2,none⟩=some (.int .i64 (s[2]?.getD 0))/\w.cell? ⟨B,o+k*5+3,none⟩=some (.int .i64 (s[3]?.getD 0))/\w.cell? ⟨B,o+k*5+4,none⟩=some (.int .i64 (s[4]?.getD 0)):=by
 obtain⟨f,g,e,i⟩:=h;cases e;have⟨B,o,q,p,l,a,j⟩:=i (by intro e;rw[e] at b;simp at b);have c:=j k s b;exact⟨B,o,l,qA a,q8 a (c 0 (by omega)),q8 a (c 1 (by omega)),q8 a (c 2 (by omega)),q8 a (c 3 (by omega)),q8 a (c 4 (by omega))⟩
def Tp.info118p:(Ya.info? 118).map (λi=>(i.zero,i.size,i.bytes))=some (some (.agg #[.int .i64 0,.int .i64 0,.int .i64 0,.int .i64 0,.int .i64 0]),5,40):=by kernel_rfl
def Tp.und121:Ya.underlying 121=some (.slice 118):=by rw[Tp.und];exact Tryz.underlying121
end
section
open Go Go.RowKit Go.Co
noncomputable def mX8:qkh:=sqB (sqB (sqB (sqB (sqB (sqB (sqB (inn (sqB (Tryz.f54.body.getD .skip)))))))))
noncomputable def q4f:qkh:=sqB (sqB mX8)
noncomputable def mLA:qkh:=inn (sqB (sqA q4f))
noncomputable def qbm:qkh:=sqB (sqB q4f)
noncomputable def mLB:qkh:=inn (sqB (sqA qbm))
noncomputable def mB3:qkh:=inn (sqA (sqB (sqB (inn mLB))))
noncomputable def mLC:qkh:=inn (sqB (sqB mB3))
def Kp(b:List Nat)(z a:Array qhu):Prop:=∀j∈b,a[j]?=z[j]?
def qbv(b:List Nat)(z a:Array qhu)(d:a.size=123)(e:Kp b z a):a=((qil 123).map λj=>bif b.elem j then z[j]?.getD qhx else a[j]?.getD qhx).toArray:=by
 have c:=QQ a;rw[d] at c;refine c.t (congrArg List.toArray (List.map_congr_left λj f=>?_));cases hc:b.elem j with
 | false=>rfl
 | true=>
  show a[j]?.getD qhx=z[j]?.getD qhx;rw[e j (List.elem_iff.1 hc)]
def xa(k:Nat)(a:List (List Int) × List (List Int))(s:List Int):List (List Int) × List (List Int):=(qil k).foldl (λa i=>ZA a (swp s i)) a
def QS(k:Nat)(a:List (List Int) × List (List Int))(s:List Int):xa (k+1) a s=ZA (xa k a s) (swp s k):=by simp[xa,qlo]
def q84(a:List (List Int) × List (List Int))(m:List Int):(ZA a m).2.length<=a.2.length+1:=by
 unfold ZA;split<;>simp
def q4z(k:Nat)(a:List (List Int) × List (List Int))(s:List Int):(xa k a s).2.length<=a.2.length+k:=by
 induction k with
 | zero=>simp[xa]
 | succ k b=>rw[QS];have:=q84 (xa k a s) (swp s k);omega
def q5m{b:List (List Int) × List (List Int)}{m:List Int}(h:∀s∈b.2,s.length=5)(hm:m.length=5):∀s∈(ZA b m).2,s.length=5:=by
 unfold ZA;split
 ·exact h
 ·intro s c;rcases qku.1 c with a | a
  ·exact h s a
  ·rw[ql4.1 a];exact hm
def q9j{k:Nat}{a:List (List Int) × List (List Int)}{s:List Int}(h:∀s∈a.2,s.length=5)(c:s.length=5):∀t∈(xa k a s).2,t.length=5:=by
 induction k with
 | zero=>simpa[xa] using h
 | succ k b=>rw[QS];exact q5m b (by rw[q75];exact c)
def vx{P:qhF}{c:qkh}{Q:Exit->Act->qhr->Prop}{a:Act}{w:qhr}(F:qhr->Prop)(b:F w)(h:∀u,F u->c.wp P Q a u):c.wp P Q a w:=h w b
structure qhb(Sb i:Nat)(s:List Int)(a b:Int)(w:qhr):Prop where
 fst:w.cell? ⟨Sb,i,none⟩=some (.int .i64 a)
 snd:w.cell? ⟨Sb,i+1,none⟩=some (.int .i64 b)
 mid:∀W:qhr,W.heap=w.heap->(W.setCell ⟨Sb,i,none⟩ (.int .i64 b)).cell? ⟨Sb,i+1,none⟩=some (.int .i64 b)/\(W.setCell ⟨Sb,i,none⟩ (.int .i64 b)).frozen? ⟨Sb,i+1,none⟩=false
 fin:∀W:qhr,W.heap=w.heap->((W.setCell ⟨Sb,i,none⟩ (.int .i64 b)).setCell ⟨Sb,i+1,none⟩ (.int .i64 a)).heap[Sb]?=some (.cells ((swp s i).map (qid .i64)).toArray 118 (0,0))
def zI{w:qhr}{d i:Nat}{s:List Int}{a b:Int}(h:w.heap[d]?=some (.cells (s.map (qid .i64)).toArray 118 (0,0)))(g:s[i]?=some a)(f:s[i+1]?=some b):qhb d i s a b w where
 fst:=q8 h (by simp[g])
 snd:=q8 h (by simp[f])
 mid W e:=by
  have c:=qi (o:=i) (v:=.int .i64 b) (show W.heap[d]?=_ by rw[e];exact h);refine⟨q8 c ?_,qn c⟩;rw[qjb (by omega)];simp[f]
 fin W e:=by
  have c:=qi (o:=i+1) (v:=.int .i64 a) (qi (o:=i) (v:=.int .i64 b) (show W.heap[d]?=_ by rw[e];exact h));rw[c];unfold swp;rw[g,f];simp[List.map_set]
def qd3{s:List Int}{i:Nat}{a b:Int}(d:s[i]?=some a)(c:s[i+1]?=some b):swp (swp s i) i=s:=by
 apply qnj;intro j;simp only[swp,d,c,List.getElem?_set,qo1];have f:=(qi3.1 d).1;have e:=(qi3.1 c).1;by_cases h:i+1=j
 ·subst h;rw[c];simp[f,e]
 ·by_cases g:i=j
  ·subst g;rw[d];simp[f,e]
  ·simp[h,g]
def qai{s:List Int}{i:Nat}{a b:Int}(d:s[i]?=some a)(c:s[i+1]?=some b):(swp s i)[i]?=some b/\(swp s i)[i+1]?=some a:=by
 have f:=(qi3.1 d).1;have e:=(qi3.1 c).1;unfold swp;rw[d,c];constructor
 ·rw[qls (by omega)];simp[f]
 ·simp[e]
structure McI(w1 u:qhr)(M Sb:Nat)(kn:List (List Int) × List (List Int))(nv:qhu)(s:List Int):Prop where
 g:w1.grownBy u (some M)
 m:zV u M kn.1
 o:u.ownsRow w1.heap.size 118 5 nv kn.2.length (kP kn.2)
 n:∀b,nv.ownBlock=some b->b≠Sb
 s:u.heap[Sb]?=some (.cells (s.map (qid .i64)).toArray 118 (0,0))
def McI.kept{d u f:qhr}{M a:Nat}{q:List (List Int) × List (List Int)}{p:qhu}{s l:List Int}(h:McI d u M a q p s)(t:M<d.heap.size)(k:d.heap.size<=a)(i:u.gb f (some a))(r:f.heap[a]?=some (.cells (l.map (qid .i64)).toArray 118 (0,0))):McI d f M a q p l where
 g:=h.g.andThen i (λj e=>.inl (by cases e;exact k))
 m:=h.m.kept (i.block M (qi0 t h.g.size) (λe=>by cases e;omega))
 o:=h.o.kept i (.inr λe=>h.n _ e rfl)
 n:=h.n
 s:=r
def McI.swap{d u:qhr}{M c i:Nat}{g:List (List Int) × List (List Int)}{f:qhu}{s:List Int}{a b:Int}(h:McI d u M c g f s)(l:M<d.heap.size)(e:d.heap.size<=c)(k:s[i]?=some a)(j:s[i+1]?=some b) :McI d (((u.setCell ⟨c,i,none⟩ (.int .i64 b)).setCell ⟨c,i+1,none⟩ (.int .i64 a)).drew) M c g f (swp s i) :=
 h.kept l e (((qh _ _ _ _).t (qh _ _ _ _)).t (qe _ _)) ((zI h.s k j).fin u rfl)
def McI.put{b u a:qhr}{M d:Nat}{K f:List (List Int)}{i:qhu}{s m:List Int}(h:McI b u M d (K,f) i s)(l:M<b.heap.size){o:Obj}(j:a=u.putObj M o)(hm:zV a M (K++[m])):McI b a M d (K++[m],f) i s:=by
 have k:=h.g.size;have c:u.gb a (some M):=by rw[j];exact ql8 u M o
 refine⟨h.g.t c,hm,h.o.kept c (.inr λe=>?_),h.n,(c.block d (qA h.s) (λe=>?_)).t h.s⟩
 ·have:=(h.o.lt M e).1;omega
 ·cases e;exact h.m.not _ _ _ h.s
def McI.push{f u k:qhr}{M i:Nat}{K a:List (List Int)}{q:Option qiG}{l p:Nat}{s m:List Int}(h:McI f u M i (K,a) (.slice q l p) s)(F:M<f.heap.size){x:Obj}{d cap:Nat}(r:(u.alloc x).gb k (qjc q l p).ownBlock)(y:k.ownsRow f.heap.size 118 5 (.slice (some d) (a.length+1) cap) (a.length+1) (kP a++m.map (qid .i64)))(v:(qjc q l p).ownBlock=some d\/d=u.heap.size+1) :McI f k M i (K,a++[m]) (.slice (some d) (a.length+1) cap) s:=by
 have D:=h.g.size;have B:=qA h.s;have c:=qhq u x none;refine⟨(h.g.andThen c (by simp)).andThen r (λj e=>.inl (h.o.lt j e).1),h.m.kept ((r.block M (by rw[qhH];omega) (λe=>?_)).t (c.block M (by omega) (by simp))),?_,λb e=>?_,(r.block i (by rw[qhH];omega) (λe=>h.n i e.symm rfl)).t (qq h.s)⟩
 ·have:=(h.o.lt M e.symm).1;omega
 ·rw[q6p,qj1];exact y
 ·have z:d=b:=by simpa[qix] using e
  subst z;rcases v with w | w
  ·exact h.n _ w
  ·omega
def q82{kn:List (List Int) × List (List Int)}{m:List Int}(h:m∈kn.1):ZA kn m=kn:=if_pos h
def q83{kn:List (List Int) × List (List Int)}{m:List Int}(h:m∉kn.1):ZA kn m=(kn.1++[m],kn.2++[m]):=if_neg h
def cCh:List Nat:=[0,1,2,3,4,5,6,7,8,9,10,12,13,14,15,16,17,18,19,23,24,25,26,27,28,29,30,31,32,33,34,35,36,37,38,39,40,41,42,43,44,45,46,47,48,49,50,51,52,53,54,55,56,57,58,59,60,61,62,63,64,65,66,67,68,69,70,115,116,117,118,119,120,121,122]
def qgx(z:Array qhu)(hz:z.size=123)(P w:qhr)(R:Act->qhr->Prop)(F M B:Nat)(T:Int)(s:List Int)(K D:List (List Int))(nv:qhu)(h9:z[9]?=some (.map (some M)))(g6:z[11]?=some nv)(g5:z[12]?=some (.int .i64 T))(e8:z[19]?=some (.pointer (some B)))(e7:z[70]?=some (.int .i64 F))(e6:z[71]?=some (.int .i64 0))(hn:F<=4)(hs:s.length=5)(hM:M<P.heap.size)(a9:P.heap.size<=B)(hS:w.heap[B]?=some (.cells (s.map (qid .i64)).toArray 118 (0,0)))(hg:P.gb w (some M))(n:zV w M K)(ho:w.ownsRow P.heap.size 118 5 nv D.length (kP D))(d9:∀b,nv.ownBlock=some b->b≠B)(q3:D.length+F<=100000)(r9:0<=T/\T<=100000)(h5:∀s∈D,s.length=5)(hR:∀(z':Array qhu) (c3:qhu) y,z'.size=123->z'[11]?=some c3->Kp cCh z z'->P.gb y (some M)->zV y M (xa F (K,D) s).1->y.ownsRow P.heap.size 118 5 c3 (xa F (K,D) s).2.length (kP (xa F (K,D) s).2)->R ⟨z',[]⟩ y) :mLC.wp Ya (qmr 4 (yt R)) ⟨z,[]⟩ w:=by
 have⟨i0,n6,n4,n3,n2⟩:=qjx Tp.info118p;obtain⟨t,ht,rfl⟩:=Zt z hz;have e9:=ht 9 _ h9;have g8:=ht 11 _ g6;have b8:=ht 12 _ g5;have b7:=ht 19 _ e8;have b6:=ht 70 _ e7;have g7:=ht 71 _ e6;clear ht h9 g6 g5 e8 e7 e6;rw[e9,g8,b8,b7,b6,g7];have HE:=qhp (qi8 e9 (qi8 b8 (qi8 b7 b6)));clear e9 g8 b8 b7 b6 g7;have⟨HR,HG,HS,HK,HO,p3,H5⟩:=q6k hR hg hS n ho d9 h5;clear hR hg hS n ho d9 hz h5;simp only[mLC,mB3,mLB,qbm,q4f,mX8,qnE,qhC,sqA,sqB,inn];go_wp2;go_loopw [11,71] (λnv iv wr=>∃i:Nat,iv=.int .i64 i/\i<=F/\McI P wr M B (xa i (K,D) s) nv s) (λ_ iv _=>(F - qiF iv).toNat)
 case atStart=>exact⟨0,rfl,by omega,HG,HK.out,HO,p3,HS⟩
 case round=>
  obtain⟨i,rfl,hi,Q⟩:=hrel;obtain⟨oa,om,oc,rfl⟩:=zB Q.o;have HI:=qhp Q;have I:=q4z i (K,D) s;by_cases s6:i<F
  ·obtain⟨a,j⟩:∃a,s[i]?=some a:=⟨_,qhz (by omega)⟩;obtain⟨b,f⟩:∃b,s[i+1]?=some b:=⟨_,qhz (by omega)⟩;obtain⟨q,hq⟩:∃q,q=swp s i:=⟨_,rfl⟩;have d7:q[i]?=some b:=by rw[hq];exact(qai j f).1
   have d6:q[i+1]?=some a:=by rw[hq];exact(qai j f).2
   have d5:swp q i=s:=by rw[hq];exact qd3 j f
   have a7:q.length=5:=by rw[hq,q75];exact hs
   have q2:(i:Int)<(F:Int):=by omega
   have r8:IntKind.i64.wrap (i:Int)=(i:Int):=qin _ (by omega);have r7:IntKind.i64.wrap ((i:Int)+1)=(i:Int)+1:=qin _ (by omega);have q0:IntKind.i64.wrap (T+1)=T+1:=qin _ (by omega);have s5:((i:Int)+1).toNat=i+1:=by omega
   have s8:(i:Int)<5:=by omega
   have s7:(i:Int)+1<5:=by omega
   have s3:(0:Int)<=(i:Int)+1:=by omega
   have hu:(0:Int)<=(i:Int):=by omega
   have ca:=(zI Q.s j f).fst;have A:=(zI Q.s j f).snd;have za:=qn Q.s (o:=i);have x:=qn Q.s (o:=i+1);have l:=qhp (zI Q.s j f).mid;have S:=qhp (Q.swap hM a9 j f);have AB:=qhp (qi8 j f);have HQ:=qhp (qi8 d7 d6);have N:=qhp (qi8 d5 hq);clear Q j f d7 d6 d5;go_wp2_with (fail);refine qz 12 (λy=>y.cell? ⟨B,i+1,none⟩=some (.int .i64 b)/\y.frozen? ⟨B,i+1,none⟩=false) (by kernel_rfl) (by kernel_rfl) ⟨A,x⟩ (λhHeld=>?_);simp only[qhE,qi1,qib,qiA,qi6,qie,qif,qio,qii,qi7];refine tk 0 (h:=tk 1 (h:=tk 2 (h:=tk 3 (h:=tk 4 (h:=tk 5 (h:=tk 6 (h:=tk 7 (h:=tk 8 (h:=?_)))))))));try go_frame
   refine rdc 9 λK n=>?_;go_simp;refine n.out _ _ (by first | exact hHeld | exact⟨A,x⟩ | exact l _ rfl) (λhHeld=>?_);clear n K;try go_frame
   refine tk 10 (h:=?_);try go_frame
   refine rdc 11 λK n=>?_;go_simp;refine n.out _ _ (by first | exact hHeld | exact⟨A,x⟩ | exact l _ rfl) (λhHeld=>?_);clear n K;try go_frame
   refine⟨by kernel_rfl,?_⟩;simp only[qig,qit];go_upto_region 26 with(fail);refine vx (λu=>McI P u M B (xa i (K,D) s) (.slice oa om oc) q) (by rw[N.2];exact S) (λu p=>?_);have O:=qhp p;have⟨Y,X,W,V,U,k⟩:=q90 a7;have c:=p.s;rw[k] at c;have b0:=q8 c (o:=0) (v:=.int .i64 Y) rfl;have b1:=q8 c (o:=1) (v:=.int .i64 X) rfl;have b2:=q8 c (o:=2) (v:=.int .i64 W) rfl;have b3:=q8 c (o:=3) (v:=.int .i64 V) rfl;have b4:=q8 c (o:=4) (v:=.int .i64 U) rfl;have⟨vl,r⟩:=p.m.look q a7;obtain⟨kn,a8⟩:∃kn,kn=xa i (K,D) s:=⟨_,rfl⟩;rw[<- a8] at r O HI I;have⟨h8,g9⟩:=qE a8 k;clear p c a8 hHeld;obtain⟨K1,C⟩:=kn;dsimp only at r I;by_cases e:q∈K1
   ·rw[decide_eq_true e,k] at r;have H:(qnx 120 (.map (some M)) (.agg #[Y,X,W,V,U]) true).run Ya u=.ok (.tuple #[vl,.bool true]) u:=r;clear r k;have HV:=qhp (q82 (kn:=(K1,C)) e);clear e;go_upto_region 30 with(fail);clear b0 b1 b2 b3 b4 H;clear ca A za x l S AB;have d:=O.out;have⟨j,f⟩:=HQ.out;have ca:=(zI d.s j f).fst;have A:=(zI d.s j f).snd;have za:=qn d.s (o:=i);have x:=qn d.s (o:=i+1);have l:=qhp (zI d.s j f).mid;have S:=qhp (d.swap hM a9 j f);have AB:=qhp (qi8 j f);clear d j f;go_wp2_with (fail);refine qz 12 (λy=>y.cell? ⟨B,i+1,none⟩=some (.int .i64 a)/\y.frozen? ⟨B,i+1,none⟩=false) (by kernel_rfl) (by kernel_rfl) ⟨A,x⟩ (λhHeld=>?_);simp only[qhE,qi1,qib,qiA,qi6,qie,qif,qio,qii,qi7];refine tk 0 (h:=tk 1 (h:=tk 2 (h:=tk 3 (h:=tk 4 (h:=tk 5 (h:=tk 6 (h:=tk 7 (h:=tk 8 (h:=?_)))))))));try go_frame
    refine rdc 9 λK n=>?_;go_simp;refine n.out _ _ (by first | exact hHeld | exact⟨A,x⟩ | exact l _ rfl) (λhHeld=>?_);clear n K;try go_frame
    refine tk 10 (h:=?_);try go_frame
    refine rdc 11 λK n=>?_;go_simp;refine n.out _ _ (by first | exact hHeld | exact⟨A,x⟩ | exact l _ rfl) (λhHeld=>?_);clear n K;try go_frame
    refine⟨by kernel_rfl,?_⟩;simp only[qig,qit];go_wp2;go_roundw
    case rel=>exact⟨i+1,by simp,by omega,by rw[QS,<- N.2,<- h8,HV];rw[N.1] at S;exact S⟩
    case measure=>simp[qiF];omega
   ·rw[decide_eq_false e,k] at r;have H:(qnx 120 (.map (some M)) (.agg #[Y,X,W,V,U]) true).run Ya u=.ok (.tuple #[vl,.bool false]) u:=r;clear r;have⟨ob,s4,Z,e5⟩:=O.out.m.add q a7 e (T+1);rw[k] at Z;have c9:(qjw 120 (.map (some M)) (.agg #[Y,X,W,V,U]) (.int .i64 (T+1))).run Ya u=.ok () (u.putObj M ob):=Z;have HV:=qhp (q83 (kn:=(K1,C)) e);have p4:=qhp e5;clear Z k e e5;go_upto_region 29 with(fail);clear b0 b1 b2 b3 b4 H c9;refine vx (λu=>McI P u M B (K1++[q],C) (.slice oa om oc) q) (O.put hM rfl (p4 _ (qn5 (qi0 hM O.g.size)))) (λu5 p=>?_);have k0:=qhp p;have k:=g9.out;have c:=p.s;rw[k] at c;have b0:=q8 c (o:=0) (v:=.int .i64 Y) rfl;have b1:=q8 c (o:=1) (v:=.int .i64 X) rfl;have b2:=q8 c (o:=2) (v:=.int .i64 W) rfl;have b3:=q8 c (o:=3) (v:=.int .i64 V) rfl;have b4:=q8 c (o:=4) (v:=.int .i64 U) rfl;have s1:=p.g.size;clear p c k;go_upto_region 30 with(at_builtin;(refine qpi _ (by rfl) _ _ _ (by rfl) P.heap.size 118 i0 _ 5 40 Tp.und121 n6 n4 n3 n2 rfl (by omega) (.slice oa om oc) C.length (kP C) (by rfl) (by exact k0.o.alloc _) ⟨u5.heap.size,0,none⟩ 1 1 [.int .i64 Y,.int .i64 X,.int .i64 W,.int .i64 V,.int .i64 U] (by rfl) (by rfl) (qje (cs:=#[Y,X,W,V,U]) (t:=118) (fr:=(0,0)) (qhA u5 _)) (by simp[qjD]) (by omega) (by unfold qlg;omega) (by omega) (by simp;omega) (u5.heap.size+1) (by simp) ?_);intro gi t1 u6 G L e4 s9;have p6:=qhp L;have n9:=qhp G;have p7:=qhp e4;clear L G e4);clear b0 b1 b2 b3 b4;have p5:=qhp (McI.push (m:=q) k0 hM p6 (by rw[g9];exact n9) p7);clear ca A za x l S AB;have d:=p5.out;have⟨j,f⟩:=HQ.out;have ca:=(zI d.s j f).fst;have A:=(zI d.s j f).snd;have za:=qn d.s (o:=i);have x:=qn d.s (o:=i+1);have l:=qhp (zI d.s j f).mid;have S:=qhp (d.swap hM a9 j f);have AB:=qhp (qi8 j f);clear d j f;go_wp2_with (fail);refine qz 12 (λy=>y.cell? ⟨B,i+1,none⟩=some (.int .i64 a)/\y.frozen? ⟨B,i+1,none⟩=false) (by kernel_rfl) (by kernel_rfl) ⟨A,x⟩ (λhHeld=>?_);simp only[qhE,qi1,qib,qiA,qi6,qie,qif,qio,qii,qi7];refine tk 0 (h:=tk 1 (h:=tk 2 (h:=tk 3 (h:=tk 4 (h:=tk 5 (h:=tk 6 (h:=tk 7 (h:=tk 8 (h:=?_)))))))));try go_frame
    refine rdc 9 λK n=>?_;go_simp;refine n.out _ _ (by first | exact hHeld | exact⟨A,x⟩ | exact l _ rfl) (λhHeld=>?_);clear n K;try go_frame
    refine tk 10 (h:=?_);try go_frame
    refine rdc 11 λK n=>?_;go_simp;refine n.out _ _ (by first | exact hHeld | exact⟨A,x⟩ | exact l _ rfl) (λhHeld=>?_);clear n K;try go_frame
    refine⟨by kernel_rfl,?_⟩;simp only[qig,qit];go_wp2;go_roundw
    case rel=>exact⟨i+1,by simp,by omega,by rw[QS,<- N.2,<- h8,HV];rw[N.1] at S;exact S⟩
    case measure=>simp[qiF];omega
  ·obtain rfl:i=F:=by omega
   clear Q;go_wp2;refine HR _ _ wr rfl rfl ?_ HI.g HI.m HI.o;rw[<- HE.1,<- HE.2.1,<- HE.2.2.1,<- HE.2.2.2]
   repeat(refine qp3.2 ⟨rfl,?_⟩)
   exact qp8 _
def yL(a:Nat)(K:List (List Int))(L:List (List Int)):List (List Int) × List (List Int):=L.foldl (xa a) (K,[])
def q9i(a:Nat)(K L:List (List Int))(s:List Int):yL a K (L++[s])=xa a (yL a K L) s:=by simp[yL]
def qe2(n:Nat)(K L:List (List Int)):qc3 n K L=yL (n - 1) K L:=rfl
def qc2(a:Nat)(K:List (List Int))(L:List (List Int)):(yL a K L).2.length<=L.length*a:=by
 have c:∀(L:List (List Int)) (b:List (List Int) × List (List Int)),(L.foldl (xa a) b).2.length<=b.2.length+L.length*a:=by
  intro L;induction L with
  | nil=>intro b;simp
  | cons s L d=>
   intro b;have f:=d (xa a b s);have e:=q4z a b s;simp only[qln,qhE,qoc];omega
 have:=c L (K,[]);rw[qi1,qi6] at this;exact this
def Jq{c:Nat}{K L:List (List Int)}(h:∀s∈L,s.length=5):∀s∈(yL c K L).2,s.length=5:=by
 have b:∀(L:List (List Int)) (a:List (List Int) × List (List Int)),(∀s∈L,s.length=5)->(∀s∈a.2,s.length=5)->∀s∈(L.foldl (xa c) a).2,s.length=5:=by
  intro L;induction L with
  | nil=>intro a _ h;simpa using h
  | cons s L e=>intro a d g;exact e _ (λt f=>d t (by simp[f])) (q9j g (d s (by simp)))
 exact b L (K,[]) h (by simp)
def bCh:List Nat:=[0,1,2,3,4,5,6,7,8,9,10,12,13,14,15,16,17,18,23,24,25,26,27,28,29,30,31,32,33,34,35,36,37,38,39,40,41,42,43,44,45,46,47,48,49,50,51,52,53,54,55,56,57,58,59,60,61,62,116,117,118,119,120,121,122]
def qfc:∀j∈(63::bCh),j∈cCh:=by decide
def qgy(z:Array qhu)(hz:z.size=123)(d:qhr)(R:Act->qhr->Prop)(n c M:Nat)(A:Int)(L K:List (List Int))(pb nb:Option qiG)(pc Z:Nat)(P:z[1]?=some (.slice pb n pc))(h9:z[9]?=some (.map (some M)))(O:z[11]?=some (.slice none 0 0))(N:z[12]?=some (.int .i64 A))(I:z[61]?=some (.slice nb L.length Z))(H:z[62]?=some (.int .i64 L.length))(G:z[63]?=some (.int .i64 0))(hn:n<=5)(l8:c=n - 1)(hM:M<d.heap.size)(hL:jr d (.slice nb L.length Z) L)(h5:∀s∈L,s.length=5)(hl:L.length<=1000)(hK:zV d M K)(a7:0<=A/\A<=100000)(hR:∀(f:Array qhu) (i:qhu) w,f.size=123->f[11]?=some i->Kp bCh z f->d.gb w (some M)->zV w M (yL c K L).1->w.ownsRow d.heap.size 118 5 i (yL c K L).2.length (kP (yL c K L).2)->R ⟨f,[]⟩ w) :mLB.wp Ya (qmr 2 (yt R)) ⟨z,[]⟩ d:=by
 obtain⟨t,h,rfl⟩:=Zt z hz;have e1:=h 1 _ P;have e9:=h 9 _ h9;have S:=h 11 _ O;have v:=h 12 _ N;have r:=h 61 _ I;have q:=h 62 _ H;have Q:=h 63 _ G;clear h P h9 O N I H G;rw[e1,e9,S,v,r,q,Q];have W:=qhp (qi8 e1 (qi8 e9 (qi8 v (qi8 r q))));clear e1 e9 S v r q Q hz;have⟨HR,HL,HK,H5⟩:=j8 hR hL hK h5;clear hR hL hK h5;simp only[mLB,qbm,q4f,mX8,qnE,qhC,sqA,sqB,inn];go_wp2;go_loopw [11,63] (λnv iv wr=>∃k:Nat,iv=.int .i64 k/\k<=L.length/\d.gb wr (some M)/\zV wr M (yL c K (L.take k)).1/\wr.ownsRow d.heap.size 118 5 nv (yL c K (L.take k)).2.length (kP (yL c K (L.take k)).2)) (λ_ iv _=>(L.length - qiF iv).toNat)
 case atStart=>exact⟨0,rfl,by omega,qhD _ _,HK.out,qjF _ _ _ _⟩
 case round=>
  obtain⟨k,rfl,hk,X,p,hO⟩:=hrel;have⟨Y,U,HO⟩:=ze X p hO;by_cases a9:k<L.length
  ·obtain⟨s,y⟩:∃s,L[k]?=some s:=⟨_,qhz a9⟩;have a8:=H5.out s (qi9 y);have D:=HL.out.keptM X (λcs fr=>HK.out.not _ _ _);obtain⟨B,o,rfl,b7,c0,c1,c2,c3,c4⟩:=D.at y;have e8:(k:Int)<(L.length:Int):=by omega
   have l7:IntKind.i64.wrap ((k:Int)+1)=(k:Int)+1:=qin _ (by omega);have l6:IntKind.i64.wrap ((n:Int) - 1)=(n:Int) - 1:=qin _ (by omega);have C:=qc2 c K (L.take k);rw[qky,qq8 hk] at C;have HS:=qhp y;obtain⟨a0,a1,a2,a3,a4,rfl⟩:=q90 a8;clear X p hO D y;go_upto_region 22 with(fail);obtain⟨T,l⟩:∃T,T=wr.heap.size:=⟨_,rfl⟩;rw[<- l];refine vx (λu=>McI d u M T (yL c K (L.take k)) u11 [a0,a1,a2,a3,a4]) ⟨Y.andThen (qhq _ _ none) (by simp),U.kept ((qhq wr _ none).block M (by have:=Y.out.size;omega) (by simp)),HO.alloc _,λb e=>by have:=(HO.lt b e).2;omega,by rw[l];exact qhA _ _⟩ (λu hI=>?_);have V:=qhp hI;have F:d.heap.size<=T:=by have:=Y.out.size;omega
   clear hI l c0 c1 c2 c3 c4 b7;go_wp2;all_goals
    refine qoo (yk (R:=λa u=>∃x:Nat->qhu,a=⟨#[t 0,.slice pb n pc,t 2,t 3,t 4,t 5,t 6,t 7,t 8,.map (some M),t 10,x 11,.int .i64 A,t 13,t 14,t 15,t 16,t 17,t 18,x 19,x 20,x 21,x 22,t 23,t 24,t 25,t 26,t 27,t 28,t 29,t 30,t 31,t 32,t 33,t 34,t 35,t 36,t 37,t 38,t 39,t 40,t 41,t 42,t 43,t 44,t 45,t 46,t 47,t 48,t 49,t 50,t 51,t 52,t 53,t 54,t 55,t 56,t 57,t 58,t 59,t 60,.slice (some ⟨B,o,none⟩) L.length Z,.int .i64 L.length,.int .i64 k,x 64,x 65,x 66,x 67,x 68,x 69,x 70,x 71,x 72,x 73,x 74,x 75,x 76,x 77,x 78,x 79,x 80,x 81,x 82,x 83,x 84,x 85,x 86,x 87,x 88,x 89,x 90,x 91,x 92,x 93,x 94,x 95,x 96,x 97,x 98,x 99,x 100,x 101,x 102,x 103,x 104,x 105,x 106,x 107,x 108,x 109,x 110,x 111,x 112,x 113,x 114,x 115,t 116,t 117,t 118,t 119,t 120,t 121,t 122],[]⟩/\d.gb u (some M)/\zV u M (yL c K (L.take (k+1))).1/\u.ownsRow d.heap.size 118 5 (x 11) (yL c K (L.take (k+1))).2.length (kP (yL c K (L.take (k+1))).2)) ?_) ?_;rotate_left
    ·refine xL (c':=mLC) (by simp only[mLC,mB3,mLB,qbm,q4f,mX8,qnE,qhC,sqA,sqB,inn]) ?_;refine qgx _ rfl d u _ c M T A [a0,a1,a2,a3,a4] (yL c K (L.take k)).1 (yL c K (L.take k)).2 u11 rfl rfl rfl rfl (congrArg some (congrArg (qid .i64) (by omega))) rfl (by omega) rfl hM F V.s V.g V.m V.o V.n (by have:k*c<=1000*4:=Nat.mul_le_mul (by omega) (by omega);omega) a7 (Jq λs y=>H5 s (qmp y)) ?_;intro f i w b1 b2 b3 b4 b5 b6;rw[show(yL c K (L.take k)).1=(yL c K (L.take k)).1 from rfl] at b5;have hT:xa c ((yL c K (L.take k)).1,(yL c K (L.take k)).2) [a0,a1,a2,a3,a4]=yL c K (L.take (k+1)):=by rw[qj7,HS];exact(q9i _ _ _ _).symm
     rw[hT] at b5 b6;refine⟨λj=>f[j]?.getD qhx,congrArg (λz=>(⟨z,[]⟩:Act)) ((qbv (63::bCh) _ f b1 (λj hj=>b3 j (qfc j hj))).trans ?_),b4,b5,?_⟩
     ·rfl
     ·show w.ownsRow _ _ _ (f[11]?.getD qhx) _ _;rw[b2];exact b6
    ·rintro a u2 ⟨x,rfl,g1,g2,g3⟩;have⟨G1,G2,G3⟩:=ze g1 g2 g3;clear g1 g2 g3;go_wp2;go_roundw
     case rel=>exact⟨k+1,by simp,by omega,G1,G2,G3⟩
     case measure=>simp[qiF];omega
  ·obtain rfl:k=L.length:=by omega
   clear X p hO;go_wp2;have P:=U.out;have h2:=HO.out;rw[qjs] at P h2;refine HR _ _ wr rfl rfl ?_ Y P h2;rw[<- W.1,<- W.2.1,<- W.2.2.1,<- W.2.2.2.1,<- W.2.2.2.2]
   repeat(refine qp3.2 ⟨rfl,?_⟩)
   exact qp8 _
def qgn(a:List Par)(b:Bool × List Int)(s:List Int):Bool × List Int:=if qx a (pre Par.mx a a.length) (zr s)=true then(true,if b.1=true/\q1B (zr s) b.2=false then b.2 else zr s) else b
def q6D(a:List Par)(L:List (List Int))(s:List Int):jI a (L++[s])=qgn a (jI a L) s:=by rw[jI,qms];rfl
def aKl:List Nat:=[0,1,2,3,4,5,6,7,8,9,10,11,12,13,14,15,18,19,20,21,22,23,24,25,26,27,28,29,30,31,32,33,34,35,36,37,38,39,40,41,42,56,57,58,59,60,61,62,63,64,65,66,67,68,69,70,71,72,73,74,75,76,77,78,79,80,81,82,83,84,85,86,87,88,89,90,91,92,93,94,95,96,97,98,99,100,101,102,103,104,105,106,107,108,109,110,111,112,113,114,115,116,117,118,119,120,121,122]
def qgz(z:Array qhu)(hz:z.size=123)(H:qhr)(R:Act->qhr->Prop)(Yb r:Nat)(a:List Par)(p:Int)(pv:qhu)(L:List (List Int))(nb:Option qiG)(nc:Nat)(h7:z[7]?=some (.pointer (some Yb)))(d6:z[13]?=some (.pointer (some r)))(d5:z[14]?=some (.func (.func 103) #[.pointer (some r)] #[]))(c9:z[41]?=some (.slice nb L.length nc))(c8:z[42]?=some (.int .i64 L.length))(b9:z[43]?=some (.int .i64 0))(hY:H.heap[Yb]?=some (.cells #[pv,p] 91 (0,0)))(hP:qr 0 r H pv a)(b8:H.heap[r]?=some (.cells #[.func (.func 99) #[] #[],.slice none 0 0,.bool false] 108 (0,0)))(a6:YOk a p)(hL:jr H (.slice nb L.length nc) L)(N:L.all (okS a p)=true)(hl:L.length<=1000)(hR:∀(z':Array qhu) (C:qhu) D,z'.size=123->Kp aKl z z'->H.gb D (some r)->D.heap[r]?=some (.cells #[.func (.func 99) #[] #[],C,.bool (jI a L).1] 108 (0,0))->qg 0 D.heap.size D C (jI a L).2->R ⟨z',[]⟩ D) :mLA.wp Ya (qmr 0 (yt R)) ⟨z,[]⟩ H:=by
 obtain⟨t,P,rfl⟩:=Zt z hz;have e7:=P 7 _ h7;have U:=P 13 _ d6;have T:=P 14 _ d5;have S:=P 41 _ c9;have Q:=P 42 _ c8;have d8:=P 43 _ b9;clear P h7 d6 d5 c9 c8 b9;obtain⟨yb,yc,rfl,p4,-⟩:=hP.cell;rw[e7,U,T,S,Q,d8];have HE:=qhp (qi8 e7 (qi8 U (qi8 T (qi8 S Q))));clear e7 U T S Q d8 hz;have⟨HR,HY,HP,G,e5,HL⟩:=Kq hR hY hP b8 a6 hL;have HA:=qhp (qiB.1 N);clear hR hY hP b8 a6 hL N;simp only[mLA,q4f,mX8,qnE,qhC,sqA,sqB,inn];go_wp2;go_loopw [43] (λiv wr=>∃(k:Nat) (C:qhu),iv=.int .i64 k/\k<=L.length/\H.gb wr (some r)/\wr.heap[r]?=some (.cells #[.func (.func 99) #[] #[],C,.bool (jI a (L.take k)).1] 108 (0,0))/\qg 0 wr.heap.size wr C (jI a (L.take k)).2) (λiv _=>(L.length - qiF iv).toNat)
 case atStart=>exact⟨0,_,rfl,by omega,qhD _ _,G,qg.nil _ _ _⟩
 case round=>
  obtain⟨k,C,rfl,hk,hG,hB,hI⟩:=hrel;have⟨HG,HB,HI⟩:=ze hG hB hI;by_cases g9:k<L.length
  ·obtain⟨s,hs⟩:∃s,L[k]?=some s:=⟨_,qhz g9⟩;have I:=HA.out s (qi9 hs);have⟨g8,Z⟩:=Qn I;have b7:=HL.out.keptM hG (λcs fr e=>by rw[G] at e;injection e with e;injection e with _ e _;exact absurd e (by decide));obtain⟨B,o,rfl,k5,c0,c1,c2,c3,c4⟩:=b7.at hs;have m5:(k:Int)<(L.length:Int):=by omega
   have p5:IntKind.i64.wrap ((k:Int)+1)=(k:Int)+1:=qin _ (by omega);have⟨HS,V⟩:=qE hs Z;obtain⟨n,j,i,g,f,rfl⟩:=q90 g8;clear hG hB hI b7 hs I Z;go_upto_region 13 with(fail);obtain⟨X,hX⟩:∃X,X=wr.heap.size:=⟨_,rfl⟩;rw[<- hX];refine vx (λu=>(H.gb u (some r)/\u.heap[r]?=some (.cells #[.func (.func 99) #[] #[],C,.bool (jI a (L.take k)).1] 108 (0,0))/\qg 0 u.heap.size u C (jI a (L.take k)).2)/\u.heap[X]?=some (.cells #[n,j,i,g,f] 118 (0,0))) ⟨⟨HG.andThen (qhq _ _ none) (by simp),qq HB,(HI.alloc _).mono (qhv _) (by rw[qhH];omega)⟩,by rw[hX];exact qhA _ _⟩ (λu hF=>?_);obtain⟨⟨f1,f2,f3⟩,W⟩:=hF;have⟨F1,F2,F3⟩:=ze f1 f2 f3;have b0:=q8 W (o:=0) (v:=.int .i64 n) rfl;have b1:=q8 W (o:=1) (v:=.int .i64 j) rfl;have b2:=q8 W (o:=2) (v:=.int .i64 i) rfl;have b3:=q8 W (o:=3) (v:=.int .i64 g) rfl;have b4:=q8 W (o:=4) (v:=.int .i64 f) rfl;have M:=qbs [n,j,i,g,f] rfl;have O:=qhp (show ∀w,qis Ya 113 #[.agg #[n,j,i,g,f]] w λe D=>∃v,e=.returned v/\w.gb D none/\qg w.heap.size D.heap.size D v (zr [n,j,i,g,f]) from M);have b:=qhp (show jI a (L.take k++[[n,j,i,g,f]])=if qx a (pre Par.mx a a.length) (zr [n,j,i,g,f])=true then(true,if(jI a (L.take k)).1=true/\q1B (zr [n,j,i,g,f]) (jI a (L.take k)).2=false then(jI a (L.take k)).2 else zr [n,j,i,g,f]) else jI a (L.take k) from q6D a (L.take k) [n,j,i,g,f]);have d9:=qhp (show L.take k++[[n,j,i,g,f]]=L.take (k+1) by rw[qj7,HS];rfl);generalize zr [n,j,i,g,f]=l at V O b;clear f1 f2 f3 W c0 c1 c2 c3 c4 k5 M hX;go_upto_region 14 with(go_at_call 113;refine(O _).mono ?_;rintro e w2 ⟨v,rfl,a9,a7⟩;have d:=qhp a9;have y:=qhp (a7.mono (qiu _) (qhv _));clear a9 a7);clear b0 b1 b2 b3 b4;obtain⟨vb,vc,rfl,-,-⟩:=y.out.cell;have gY:=F1.out.andThen d (by simp);have y2:=blk gY (λe=>by cases e;have h:=HY.out;rw[G] at h;injection h with h;injection h with _ h _;exact absurd h (by decide)) HY;have y0:=q8 y2 (o:=0) rfl;have y1:=q8 y2 (o:=1) rfl;have e4:=qhp ((HP.kept gY (λR e=>by cases e;exact .inr (qhv _))).mono (qhv _) (qri (qi0 (qA G) gY.size)));have GY:=qhp gY;clear gY y2;cases hst:qx a (pre Par.mx a a.length) l with
   | false=>
    have x:=qhp hst;clear hst;go_wp2_with (go_at_call 114;refine(q2u 0 _ _ _ a p l w2 ⟨_,rfl,e4⟩ y (qhv _) e5 V).mono ?_;rintro e w3 ⟨rfl,q⟩;rw[x];have c:=qhp q;clear q);go_roundw
    case rel=>
     rw[d9,if_neg (by rw[x];simp)] at b;have F:=d.out.t c;refine⟨k+1,C,by simp,by omega,F1.andThen F (by simp),?_,?_⟩
     ·rw[b];exact bk F F2
     ·rw[b];exact(F3.kept F).mono (qhv _) F.size
    case measure=>simp[qiF];omega
   | true=>
    have x:=qhp hst;clear hst;go_wp2_with (first
     | (go_at_call 114;refine(q2u 0 _ _ _ a p l w2 ⟨_,rfl,e4⟩ y (qhv _) e5 V).mono ?_;rintro e w3 ⟨rfl,q⟩;rw[x];have c:=qhp q;clear q)
     | (go_at_call 103;refine(q87 r (jI a (L.take k)).1 C _ (jI a (L.take k)).2 l w3 (bk (d.t c) F2) ((F3.kept (d.t c)).mono (qhv _) (d.t c).size) ((y.kept c).mono (qhv _) c.size)).mono ?_;rintro e w4 ⟨rfl,a8,Y⟩;have A:=qhp a8;have k8:=qhp Y;clear a8 Y))
    go_roundw
    case rel=>
     rw[d9,if_pos x.out] at b;have F:=d.out.t c;have b6:=bk F F2;refine⟨k+1,_,by simp,by omega,(F1.andThen F (by simp)).t A,by rw[b];exact k8,?_⟩;rw[b];dsimp only;split
     ·exact(((F3.kept F).mono (qhv _) F.size).keptT A b6 (by decide)).mono (qhv _) A.size
     ·exact(((y.kept c).mono (qhv _) c.size).keptT A b6 (by decide)).mono (qhv _) A.size
    case measure=>simp[qiF];omega
  ·obtain rfl:k=L.length:=by omega
   clear hG hB hI;go_wp2;have h1:=HB.out;have h2:=HI.out;rw[qjs] at h1 h2;refine HR _ _ wr rfl ?_ HG h1 h2;rw[<- HE.1,<- HE.2.2.1,<- HE.2.1,<- HE.2.2.2.1,<- HE.2.2.2.2]
   repeat(refine qp3.2 ⟨rfl,?_⟩)
   exact qp8 _
def qbC{w a:qhr}(h:w.gb a none)(r:Option Nat):w.gb a r:=⟨h.os,h.tape,h.output,h.size,λk b _=>h.block k b (by simp)⟩
def MJ(d:List Par)(b:Int)(w0:qhr)(g:Option qiG)(n e h:Nat)(c:qhu)(o:Option (Int × List Int))(a:Act)(w:qhr):Prop :=
 ∃(z:Array qhu) (Yb M st f:Nat) (K now:List (List Int)) (nb:Option qiG) (nc:Nat),a=⟨z,[]⟩/\z.size=123/\z[1]?=some (.slice g n e)/\z[7]?=some (.pointer (some Yb))/\z[9]?=some (.map (some M))/\z[10]?=some (.slice nb now.length nc)/\z[11]?=some (.slice none 0 0)/\z[12]?=some (.int .i64 st) /\
  st+f=h/\q1m d b n f K now st=some o/\zV w M K/\w0.heap.size<=M/\jr w (.slice nb now.length nc) now/\w0.gb w none/\w.heap[Yb]?=some (.cells #[c,b] 91 (0,0))/\qr 0 w0.heap.size w c d
def qf0(o:Option (Int × List Int))(z:Array qhu)(w:qhr):Prop :=
 match o with
 | some (a,r)=>∃v,z[4]?=some (.int .i64 a)/\z[5]?=some v/\z[6]?=some (.int .i64 0)/\qg 0 w.heap.size w v r
 | none=>z[4]?=some (.int .i64 0)/\z[5]?=some (.slice none 0 0)/\z[6]?=some (.int .i64 11)
def q06{w:qhr}{M:Nat}{c:Array qlj}{a:Nat}(b:qi4)(h:w.heap[M]?=some (.map c a)):(qof #[120] b #[.map (some M)]).run Ya w=.ok (.tuple #[]) (w.putObj M (.map #[] a)):=by
 simp[qof,qjo,run_underlying Tp.und120,getObj,setObj,qjd,h,qnr,World.putObj]
def qd9(a:Act):Int:=qiF (a.tmps.getD 12 qhx)
def qew(H:List Par)(B:Int)(w0 w:qhr)(V:Option qiG)(n U f0:Nat)(pv:qhu)(o:Option (Int × List Int))(a:Act)(Q:Exit->Act->qhr->Prop)(hJ:MJ H B w0 V n U f0 pv o a w)(l5:YOk H B)(hn:n<=5)(hf:f0<=1000)(hQ:∀(b:Array qhu) L,b.size=123->qf0 o b L->w0.gb L none->Q .ret ⟨b,[]⟩ L) :mX8.wp Ya (qqq 0 (λa' L=>MJ H B w0 V n U f0 pv o a' L/\(f0 - qd9 a').toNat<(f0 - qd9 a).toNat) Q) a w:=by
 obtain⟨z,Yb,M,P,f,K,c,nb,nc,rfl,hz,h1,h7,h9,e5,e4,d9,s5,hm,hM,h,hN,hG,hY,hP⟩:=hJ;obtain⟨t,N,rfl⟩:=Zt z hz;have e1:=N 1 _ h1;have e7:=N 7 _ h7;have e9:=N 9 _ h9;have g6:=N 10 _ e5;have g5:=N 11 _ e4;have e8:=N 12 _ d9;clear N h1 h7 h9 e5 e4 d9 hz;obtain⟨yb,yc,rfl,s3,-⟩:=hP.cell;rw[e1,e7,e9,g6,g5,e8];clear e1 e7 e9 g6 g5 e8;cases f with
 | zero=>cases hm
 | succ f=>
  unfold q1m at hm;split at hm
  ·rename_i g
   obtain⟨g,hl⟩:=g;have⟨i,HQ,G,HM,HN,HG,HY,HP⟩:=qbB g hQ hm hM hN hG hY hP;have l9:M<w.heap.size:=by obtain⟨es,cl,e,-⟩:=hM;exact qA e
   clear hQ hm hM hN hG hY hP g;simp only[mX8,qnE,qhC,sqA,sqB,inn];have s6:∀(a:qiG) (fn:Fn) (x y:Array qhu) (m:Mode) (w:qhr),(store a (.func fn x y) m).run Ya w=stored Ya w a (.func fn x y) m:=λa fn x y m w=>run_store _ w a _ m rfl;go_upto_region 10 with(fail);obtain⟨F,C⟩:∃F,F=w.heap.size:=⟨_,rfl⟩;rw[<- C];have O:=qhq w (.cells #[.func (.func 99) #[] #[],.slice none 0 0,.bool false] 108) none;have u9:=qhp O;refine vx (λu=>(w.gb u none/\u.heap[F]?=some (.cells #[.func (.func 99) #[] #[],.slice none 0 0,.bool false] 108 (0,0)))) ⟨O,by rw[C];exact qhA _ _⟩ (λu hF=>?_);obtain⟨g1,T⟩:=hF;have⟨G1,B1,n3⟩:=ze g1 T C;have t5:M<F:=by omega
   have b9:w0.heap.size<=F:=by have:=HG.out.size;omega
   clear g1 T O C;go_upto_region 17 with(fail);refine qoo (yk (R:=λa u2=>∃(b:Array qhu) (bv:qhu),a=⟨b,[]⟩/\b.size=123/\b[1]?=some (.slice V n U)/\b[7]?=some (.pointer (some Yb))/\b[9]?=some (.map (some M))/\b[10]?=some (.slice nb c.length nc)/\b[11]?=some (.slice none 0 0)/\b[12]?=some (.int .i64 P)/\b[13]?=some (.pointer (some F)) /\
    u.gb u2 (some F)/\u2.heap[F]?=some (.cells #[.func (.func 99) #[] #[],bv,.bool (jI H c).1] 108 (0,0))/\qg 0 u2.heap.size u2 bv (jI H c).2) ?_) ?_
   rotate_left
   ·refine xL (c':=mLA) (by simp only[mLA,q4f,mX8,qnE,qhC,sqA,sqB,inn]) ?_;refine qgz _ rfl u _ Yb F H B (.slice yb H.length yc) c nb nc rfl rfl rfl rfl rfl rfl (bk G1 HY) ((HP.kept G1).mono (qhv _) b9) B1 l5 (HN.keptM (M:=M) (qbC G1 _) (λcs fr=>HM.not _ _ _)) i hl ?_;intro b bv L T D S b4 b5;exact⟨b,bv,rfl,T,D 1 (by decide),D 7 (by decide),D 9 (by decide),D 10 (by decide),D 11 (by decide),D 12 (by decide),D 13 (by decide),S,b4,b5⟩
   ·rintro a u2 ⟨b,bv,rfl,r,k1,Y,X,a6,l,k,Z,f1,f2,I⟩;obtain⟨t2,d,rfl⟩:=Zt b r;have j1:=d 1 _ k1;have j7:=d 7 _ Y;have j9:=d 9 _ X;have b7:=d 10 _ a6;have q:=d 11 _ l;have p:=d 12 _ k;have b0:=d 13 _ Z;clear d k1 Y X a6 l k Z;rw[j1,j7,j9,b7,q,p,b0];clear j1 j7 j9 b7 q p b0 r;obtain⟨bb,bc,rfl,-,-⟩:=I.cell;have c9:w.gb u2 none:=xW G1 f1 (by rw[n3];exact qhv _);have c1:=q8 f2 (o:=1) rfl;have c2:=q8 f2 (o:=2) rfl;have⟨F3,A⟩:=qE I c9;have l8:M<u2.heap.size:=by have:=c9.size;omega
    have t4:=qA f2;clear f1 f2 I;cases hb:(jI H c).1 with
    | true=>
     rw[if_pos hb] at G;rw[hb] at c2;clear hb;go_wp2_with (fail);go_quiet (fail);go_wp2;simp only[qqq];have hm:=G.out;cases hm;exact HQ _ _ rfl ⟨_,rfl,rfl,rfl,(F3.kept (qk _ _ none)).mono (qhv _) (qhv _)⟩ ((HG.t A).t (qk _ _ none))
    | false=>
     rw[if_neg (by rw[hb];simp)] at G;rw[hb] at c2;clear hb;have d8:zV u2 M K:=HM.out.kept (A.block M l9 (by simp));have d7:jr u2 (.slice nb c.length nc) c:=HN.out.keptM (M:=M) (qbC A _) (λcs fr=>HM.not _ _ _);have⟨m4,l7⟩:=qE d8 d7;clear d8 d7;go_upto_region 33 with(fail);refine qoo (yk (R:=λa u3=>∃(b:Array qhu) (W:qhu),a=⟨b,[]⟩/\b.size=123/\b[1]?=some (.slice V n U)/\b[7]?=some (.pointer (some Yb))/\b[9]?=some (.map (some M))/\b[11]?=some W/\b[12]?=some (.int .i64 P) /\
      u2.gb u3 (some M)/\zV u3 M (yL (n - 1) K c).1/\u3.ownsRow u2.heap.size 118 5 W (yL (n - 1) K c).2.length (kP (yL (n - 1) K c).2)) ?_) ?_
     rotate_left
     ·refine xL (c':=mLB) (by simp only[mLB,qbm,q4f,mX8,qnE,qhC,sqA,sqB,inn]) ?_;refine qgy _ rfl u2 _ n (n - 1) M P c K V nb U nc rfl rfl rfl rfl rfl rfl rfl hn rfl l8 l7 (λs hs=>(Qn (qiB.1 i s hs)).1) hl m4 (by omega) ?_;intro b W L T D S b4 b5 b6;exact⟨b,W,rfl,T,S 1 (by decide),S 7 (by decide),S 9 (by decide),D,S 12 (by decide),b4,b5,b6⟩
     ·rintro a u3 ⟨b,W,rfl,r,k1,Y,X,l,k,f1,f2,I⟩;obtain⟨t3,j,rfl⟩:=Zt b r;have j1:=j 1 _ k1;have j7:=j 7 _ Y;have j9:=j 9 _ X;have q:=j 11 _ l;have p:=j 12 _ k;clear j k1 Y X l k;rw[j1,j7,j9,q,p];clear j1 j7 j9 q p r c1 c2;obtain⟨s2,r7,r9,rfl⟩:=zB I;have⟨F1,F2⟩:=qE f1 f2;have hS:=jr.own I (Jq λs hs=>(Qn (qiB.1 i s hs)).1);obtain⟨s1,r8,e3,-⟩:=hS;cases e3;have HS:=qhp (jr.own I (Jq λs hs=>(Qn (qiB.1 i s hs)).1));have hm:=G.out;rw[qe2] at hm;have s4:IntKind.i64.wrap ((P:Int)+1)=(P:Int)+1:=qin _ (by omega);have d5:w0.gb u3 none:=xW (HG.t A) F1 h;have d6:w.gb u3 (some M):=(qbC A _).t F1;have⟨g9,h8⟩:=qE d5 d6;clear f1 f2 I d5 d6;split at hm
      ·rename_i s8
       split at hm
       ·rename_i v
        cases hm;rw[v];obtain⟨es,cl,c8,-⟩:=F2.out;have s9:=q06 0 c8;clear c8;go_wp2;simp only[qqq];exact HQ _ _ rfl ⟨rfl,rfl,rfl⟩ (xW g9 (ql8 _ _ _) h)
       ·rename_i v
        have n8:(0:Int)<((yL (n - 1) K c).2.length:Int):=by
         have:=qm6.2 v;omega
        have n2:=qhp hm;clear hm;go_wp2;go_step3;have m3:Yb≠M:=λe=>by rw[e] at HY;exact HM.not _ _ _ HY
        refine⟨rfl,⟨_,Yb,M,P+1,f,_,_,_,_,rfl,rfl,rfl,rfl,rfl,rfl,rfl,by simp,by omega,by simpa using n2.out,F2,h,HS,g9,blk h8 (by simpa using m3) HY,HP.kept h8 (λR e=>by cases e;exact .inr h)⟩,?_⟩;simp[qd9,qiF];omega
      ·cases hm
  ·cases hm
def qf1(w0:qhr)(o:Option (Int × List Int))(e:Ending)(a:qhr):Prop :=
 w0.gb a none/\match o with
 | some (b,r)=>∃v,e=.returned (.tuple #[b,v,.int .i64 0])/\qg 0 a.heap.size a v r
 | none=>e=.returned (.tuple #[.int .i64 0,.slice none 0 0,.int .i64 11])
def q94{l:Nat}{J c:Act->qhr->Prop}{Q:Exit->Act->qhr->Prop}(h:∀a w,J a w->c a w):∀e a w,qqq l J Q e a w->qqq l c Q e a w:=by
 intro e a w b;cases e with
 | goto d=>exact⟨b.1,h _ _ b.2⟩
 | _=>exact b
def q4d{w b:qhr}{o:Option (Int × List Int)}{z:Array qhu}(n:z.size=123)(k:qf0 o z b)(j:w.gb b none):bodyPost Ya qnE (λe b=>qf1 w o e b) .ret ⟨z,[]⟩ b:=by
 obtain⟨t,a,rfl⟩:=Zt z n;cases o with
 | none=>
  obtain⟨f,d,c⟩:=k;have i:=a 4 _ f;have h:=a 5 _ d;have g:=a 6 _ c;rw[i,h,g];exact qka (v:=.tuple #[.int .i64 0,.slice none 0 0,.int .i64 11]) (by simp[qke,qs3,go_sem]) rfl ⟨j,rfl⟩
 | some p=>
  obtain⟨l,r⟩:=p;obtain⟨v,f,d,c,q⟩:=k;have i:=a 4 _ f;have h:=a 5 _ d;have g:=a 6 _ c;rw[i,h,g];exact qka (v:=.tuple #[l,v,.int .i64 0]) (by simp[qke,qs3,go_sem]) rfl ⟨j,v,rfl,q⟩
def qdu(pv qv:qhu)(g:List Par)(b:Int)(l:List Int)(w:qhr)(hP:qr 0 w.heap.size w pv g)(hI:qg 0 w.heap.size w qv l)(T:YOk g b)(hp:POk g b l)(q:Nat)(hf:q<=1000)(o:Option (Int × List Int))(hm:q1m g b l.length q [zX l] [zX l] 0=some o) :qis Ya 54 #[.agg #[pv,b],qv] w λe w'=>qf1 w o e w':=by
 obtain⟨O,N,rfl,n2,-⟩:=hP.cell;obtain⟨pb,pc,rfl,-,-⟩:=hI.cell;have n6:=hp.len;have⟨HP,HI,H,e8,HM⟩:=ZW hP hI T hp hm;clear hP hI T hp hm;go_enter Tp.x54,Tryz.ntmps54;have c:l.length<=5:=by
  cases q with
  | zero=>cases HM
  | succ f=>
   have h:=HM.out;unfold q1m at h;split at h
   ·rename_i h1
    have:=(Qn (qiB.1 h1.1 (zX l) (by simp))).1;unfold zX at this;rw[qj1] at this;omega
   ·cases h
 go_wp2;refine wp_scope_jumps 0 (MJ g b w pb l.length pc q (.slice O g.length N) o) (λa _=>(q - qd9 a).toNat) rfl ?_ ?_
 ·go_upto_region 4 with(go_at_call 81;refine(vg 0 w.heap.size _ _ g b l _ (HP.kept (qhq _ _ none)) (HI.kept (qhq _ _ none)) (by simp) H e8).mono ?_;rintro e w2 ⟨rfl,Y⟩;have a6:=qhp ((qhq w (.cells #[.slice O g.length N,b] 24) none).t Y);clear Y);obtain⟨L,C⟩:∃L,L=w2.heap.size:=⟨_,rfl⟩;rw[<- C];refine vx (λu=>w.gb u none/\u.heap[L]?=some (.cells #[.slice O g.length N,b] 91 (0,0))) ⟨a6.t (qhq _ _ none),by rw[C];exact qhA _ _⟩ (λu Z=>?_);obtain⟨g3,y3⟩:=Z;have⟨G3,Y3⟩:=qE g3 y3;clear g3 y3 C a6;obtain⟨M,k⟩:∃M,M=u.heap.size:=⟨_,rfl⟩;have p:zV (u.alloc (.map #[] 0)) M []:=zV.nil (by rw[k];exact qhA u (.map #[] 0));have r:=qhp p;have j:u.gb (u.alloc (.map #[] 0)) none:=qhq _ _ none;have g9:=qhp j;have D:M<(u.alloc (.map #[] 0)).heap.size:=by rw[k,qhH];omega
  have h5:=Zf c;have⟨x0,x1,x2,x3,x4,Q⟩:=q90 h5;have G:=qhp Q;have d6:(qpp 120 none).run Ya u=.ok (.map (some M)) (u.alloc (.map #[] 0)):=by rw[k];rfl
  clear p h5 Q;go_upto_region 5 with(go_at_call 112;refine(JA 0 _ _ l _ ((HI.kept (G3.t j)).mono (qhv _) (G3.t j).size) c).mono ?_;rintro e w5 ⟨rfl,A⟩;have I:=qhp A;have U:=r.out.kept (A.block M D (by simp));have⟨ob,n4,y,W⟩:=U.add (zX l) (Zf c) (by simp) 0;have e9:=qhp W;clear W A U;rw[G] at y ⊢;have S:(qjw 120 (.map (some u.heap.size)) (.agg #[x0,x1,x2,x3,x4]) (.int .i64 0)).run Ya w5=.ok () (w5.putObj M ob):=k ▸ y;clear y;unfold A5);rw[<- k];have X:M<w5.heap.size:=qi0 D I.size;have R:w.heap.size<=M:=by have:=G3.out.size;omega
  refine vx (λv=>w.gb v none/\v.heap[L]?=some (.cells #[.slice O g.length N,b] 91 (0,0))/\zV v M [zX l]) ⟨xW (G3.t (j.t I)) (ql8 _ _ _) R,blk (ql8 _ _ _) (λe=>by cases e;have:=qA Y3;omega) (bk (j.t I) Y3),e9 _ (qn5 X)⟩ (λu6 Z=>?_);obtain⟨g6,y6,m6⟩:=Z;have⟨G6,Y6,M6⟩:=ze g6 y6 m6;have n3:=g6.size;clear g6 y6 m6 S d6 r j g9 D X k;go_upto_region 6 with(go_at_call 112;refine(JA 0 _ _ l _ ((HI.kept G6).mono (qhv _) G6.size) c).mono ?_;rintro e P ⟨rfl,V⟩;have h8:=qhp V;clear V;rw[G];unfold A5);have z:=M6.out;have B:(P.alloc (.cells #[x0,x1,x2,x3,x4] 118)).heap[P.heap.size]?=some (.cells #[x0,x1,x2,x3,x4] 118 (0,0)):=qhA P _;have n:=h8.out.t (qhq P (.cells #[x0,x1,x2,x3,x4] 118) none);have e5:M<u6.heap.size:=by obtain⟨es,cl,e,-⟩:=z;exact qA e
  obtain⟨B7,F⟩:∃B7,B7=P.heap.size:=⟨_,rfl⟩;rw[<- F] at B;rw[<- F];refine vx (λv=>w.gb v none/\v.heap[L]?=some (.cells #[.slice O g.length N,b] 91 (0,0))/\zV v M [zX l]/\jr v (.slice (some B7) [zX l].length 1) [zX l]) ⟨G6.t n,bk n Y6,z.kept (n.block M e5 (by simp)),_,_,rfl,λ_=>⟨B7,0,_,_,rfl,B,λi s hi d hd=>by
   rcases i with _ | i
   ·simp at hi;subst hi;rw[G];obtain rfl | rfl | rfl | rfl | rfl:d=0\/d=1\/d=2\/d=3\/d=4:=by omega
    all_goals rfl
   ·simp at hi⟩⟩ (λu8 Z=>?_)
  obtain⟨g8,y8,m8,s8⟩:=Z;have⟨G8,Y8,M8,S8⟩:=j8 g8 y8 m8 s8;clear g8 y8 m8 s8 z B n F;go_wp2;refine wp_label ?_
  rename_i K hK
  refine hK _ _ ?_;refine xL (c':=mX8) (by simp only[mX8,qnE,qhC,sqB,inn]) ?_;refine qoo (q94 λa u h=>h.1) (qew g b w u8 pb l.length pc q _ o _ _ ⟨_,L,M,0,q,[zX l],[zX l],_,_,rfl,rfl,rfl,rfl,rfl,rfl,rfl,rfl,by omega,HM,M8,R,S8,G8,Y8,HP.kept G8⟩ H c hf ?_);exact λz' w' x hR hg=>q4d x hR hg
 ·rintro a u hJ;refine wp_seq ?_;refine wp_skip ?_;refine xL (c':=mX8) (by simp only[mX8,qnE,qhC,sqB,inn]) ?_;refine qew g b w u pb l.length pc q _ o a _ hJ H c hf ?_;exact λz' w' x hR hg=>q4d x hR hg
end
section
open Go.RowKit Go.Co
def vw(f g:Nat)(w:qhr)(v:qhu)(n:Nat)(c:Nat->Nat->Int):Prop :=
 ∃base a,v=.slice base n a/\(n:Int)<=1000000/\(0<n->∃B o b e h,base=some ⟨B,o,none⟩/\f<=B/\B<g/\w.heap[B]?=some (.cells b e h)/\∀i,i<n->∀d,d<5->b[o+i*5+d]?=some (.int .i64 (c i d)))
def ovr(c g:Nat->Int)(l:List Int)(k:Nat):Nat->Int:=λd=>if(d:Int)∈l.take k then c d else g d
def q43(c g:Nat->Int)(l:List Int)(k n:Nat)(h:l[k]?=some (n:Int))(d:Nat):ovr c g l (k+1) d=if d=n then c d else ovr c g l k d:=by
 unfold ovr;rw[qj7,h];by_cases e:d=n
 ·subst e;simp
 ·have:¬ ((d:Int)=n):=by omega
  simp[e,this]
def qfp(lo hi:Nat)(t:Nat->qhu)(w0 w:qhr)(R:Act->qhr->Prop)(A V:Nat)(av vv:qhu)(N i:Nat)(c:Nat->Nat->Int)(f:List Int)(o l:Nat)(g h:Nat->Int)(h2:t 2=.pointer (some A))(hA:w0.cell? A=some av)(hC:vw lo hi w0 av N c)(h5:t 5=.pointer (some V))(I:w0.cell? V=some vv)(hI:qg lo hi w0 vv f)(h7:t 7=.int .i64 i)(d9:i<N)(h8:t 8=.pointer (some o))(h9:t 9=.pointer (some l))(hg:w0.gb w none)(b:w.heap[o]?=some (qI g))(a:w.heap[l]?=some (qI h))(d8:o≠l)(p4:w0.heap.size<=o)(p3:w0.heap.size<=l)(n9:hi<=w0.heap.size)(hx:∀x∈f,0<=x/\x<5)(hR:∀(c9 c8 c3 b9 b8 b7 b6 b0 a9 a8 a7 a6 Z Y X W U T S Q P O M L:qhu) w',w0.gb w' none->w'.heap[o]?=some (qI (ovr (c i) g f f.length))->w'.heap[l]?=some (qI (ovr (c i) h f f.length)) ->R ⟨#[t 0,t 1,.pointer (some A),t 3,t 4,.pointer (some V),t 6,.int .i64 i,.pointer (some o),.pointer (some l),t 10,c9,t 12,t 13,t 14,t 15,t 16,t 17,t 18,t 19,t 20,t 21,t 22,t 23,t 24,c8,c3,b9,b8,b7,b6,b0,a9,a8,a7,a6,Z,Y,X,W,U,T,S,Q,P,O,M,L,t 48,t 49,t 50,t 51,t 52,t 53,t 54,t 55,t 56,t 57,t 58,t 59],[]⟩ w') :wR4.wp Ya (yt R) ⟨#[t 0,t 1,t 2,t 3,t 4,t 5,t 6,t 7,t 8,t 9,t 10,t 11,t 12,t 13,t 14,t 15,t 16,t 17,t 18,t 19,t 20,t 21,t 22,t 23,t 24,t 25,t 26,t 27,t 28,t 29,t 30,t 31,t 32,t 33,t 34,t 35,t 36,t 37,t 38,t 39,t 40,t 41,t 42,t 43,t 44,t 45,t 46,t 47,t 48,t 49,t 50,t 51,t 52,t 53,t 54,t 55,t 56,t 57,t 58,t 59],[]⟩ w:=by
 obtain⟨ab,ac,rfl,hN,F⟩:=hC;obtain⟨vb,vc,rfl,hq,D⟩:=hI.cell;obtain⟨AB,ao,q4,q1,q3,rfl,l5,l4,y,v⟩:=F (by omega);have⟨HR,HI,HX,HA,HV⟩:=ZW hR D hx hA I;have HC:=qhp (qi8 y v);have⟨g6,g5,HG⟩:=ze b a hg;have p7:A<w0.heap.size:=qqv hA;have p5:V<w0.heap.size:=qqv I;clear hR hI D F hx b a y v;rw[h2,h5,h7,h8,h9];clear h2 h5 h7 h8 h9;simp only[wR4,jN,qmd,qhC,sqA,sqB,inn];have v0:=hg.cl I;clear hA I hg;go_wp2;clear v0;go_loopw [27] (λiv wr=>∃k:Nat,iv=.int .i64 k/\k<=f.length/\w0.gb wr none/\wr.heap[o]?=some (qI (ovr (c i) g f k))/\wr.heap[l]?=some (qI (ovr (c i) h f k))) (λiv _=>(f.length - qiF iv).toNat)
 case atStart=>exact⟨0,rfl,by omega,HG,by rw[g6];first | (congr 1;done) | (congr 1;exact yF λd _=>by simp[ovr]),by rw[g5];first | (congr 1;done) | (congr 1;exact yF λd _=>by simp[ovr])⟩
 case round=>
  obtain⟨k,rfl,hk,s,b,a⟩:=hrel;have⟨H,B,z⟩:=ze s b a;have a0:=s.cl HA;have v0:=s.cl HV;have n7:=(qhs.1 b).1;have n6:=(qhs.1 a).1;have n4:=s.size;by_cases r:k<f.length
  ·obtain⟨VB,vo,rfl,k9,k8,k7,u⟩:=HI.out (by intro e;rw[e] at r;simp at r);have x0:=s.cl (u k r);obtain⟨x,q⟩:∃x,f[k]?=some x:=⟨_,qhz r⟩;have⟨n3,n2⟩:=HX.out x (qi9 q);rw[q] at x0;simp only[qhC] at x0;obtain⟨n,rfl⟩:∃n:Nat,x=n:=⟨x.toNat,by omega⟩;have p:n<5:=by omega
   have C:w0.cell? ⟨AB,ao+i*5+n,none⟩=some (.int .i64 (c i n)):=q8 HC.1 (HC.2 i d9 n p);have c0:=s.cl C;have d1:=qp b p;have d2:=qp a p;have f1:=jw b;have f2:=jw a;have G:=qhp q;clear u q s b a C;go_upto_region 7 with(fail);have n8:(i:Int)<(N:Int):=by omega
   have k0:(n:Int)<5:=by omega
   have R1:((wr.setCell ⟨o,n,none⟩ (.int .i64 (c i n))).setCell ⟨l,n,none⟩ (.int .i64 (c i n))).heap[o]?=some (qI (ovr (c i) g f (k+1))):=by
    refine(blk (qh _ l _ _) (by simp;exact d8) (Qi B p)).trans ?_
    congr 1
    exact yF λd _=>by rw[q43 _ _ _ _ n G];split<;>simp_all
   have R2:((wr.setCell ⟨o,n,none⟩ (.int .i64 (c i n))).setCell ⟨l,n,none⟩ (.int .i64 (c i n))).heap[l]?=some (qI (ovr (c i) h f (k+1))):=by
    refine(Qi (blk (qh _ o _ _) (by simp;omega) z) p).trans ?_
    congr 1
    exact yF λd _=>by rw[q43 _ _ _ _ n G];split<;>simp_all
   have RG:w0.gb ((wr.setCell ⟨o,n,none⟩ (.int .i64 (c i n))).setCell ⟨l,n,none⟩ (.int .i64 (c i n))).drew none :=
    ((H.andThen (row':=some o) (qh _ _ _ _) (by rintro j e;cases e;exact .inl (by omega))).andThen (row':=some l) (qh _ _ _ _) (by rintro j e;cases e;exact .inl (by omega))).t (qe _ _)
   have⟨e9,e8,e7⟩:=ze R1 R2 RG;clear R1 R2 RG;go_region_law (fail);all_goals
    clear a0 x0 c0 d1 d2 f1 f2;go_wp2;go_roundw
    case rel=>exact⟨k+1,by simp,by omega,e7,e9,e8⟩
    case measure=>simp[qiF];omega
  ·obtain rfl:k=f.length:=by omega
   clear s b a a0 v0;go_wp2;exact HR _ _ _ _ _ _ _ _ _ _ _ _ _ _ _ _ _ _ _ _ _ _ _ _ wr H B z
def qfo(r q:Nat)(t:Nat->qhu)(w0 w:qhr)(R:Act->qhr->Prop)(Y V:Nat)(yb:Option qiG)(yc:Nat)(vv:qhu)(c:List Par)(f:Int)(l:List Int)(B1 B2:Nat)(g h:Nat->Int)(h4:t 4=.pointer (some Y))(z:w0.cell? Y=some (.slice yb c.length yc))(y:w0.cell? ⟨Y,1,none⟩=some (.int .i64 f))(hP:qr r q w0 (.slice yb c.length yc) c)(h6:t 6=.pointer (some V))(hV:w0.cell? V=some vv)(hI:qg r q w0 vv l)(h8:t 8=.pointer (some B1))(h9:t 9=.pointer (some B2))(p:w0.gb w none)(b:w.heap[B1]?=some (qI g))(A:w.heap[B2]?=some (qI h))(l4:q<=w0.heap.size)(o:c.length<=5)(hx:∀x∈l,0<=x/\x<c.length)(hl:l.length<=1000)(u:∀i,0<=g i/\g i<=1000)(s:∀i,0<=h i/\h i<=1000)(hR:∀(U T S Q P O N M L I:qhu) w',w.gb w' none->R ⟨#[t 0,t 1,t 2,t 3,.pointer (some Y),t 5,.pointer (some V),t 7,.pointer (some B1),.pointer (some B2),t 10,t 11,t 12,t 13,t 14,t 15,t 16,t 17,t 18,t 19,t 20,t 21,t 22,t 23,t 24,t 25,t 26,t 27,t 28,t 29,t 30,t 31,t 32,t 33,t 34,t 35,t 36,t 37,t 38,t 39,t 40,t 41,t 42,t 43,t 44,t 45,t 46,t 47,U,T,S,Q,P,O,N,M,L,I,.bool (qx c g l && !qx c h l),t 59],[]⟩ w') :wR9.wp Ya (yt R) ⟨#[t 0,t 1,t 2,t 3,t 4,t 5,t 6,t 7,t 8,t 9,t 10,t 11,t 12,t 13,t 14,t 15,t 16,t 17,t 18,t 19,t 20,t 21,t 22,t 23,t 24,t 25,t 26,t 27,t 28,t 29,t 30,t 31,t 32,t 33,t 34,t 35,t 36,t 37,t 38,t 39,t 40,t 41,t 42,t 43,t 44,t 45,t 46,t 47,t 48,t 49,t 50,t 51,t 52,t 53,t 54,t 55,t 56,t 57,t 58,t 59],[]⟩ w:=by
 obtain⟨vb,vc,rfl,hq,-⟩:=hI.cell;have F:=qhp hR;have HI:=qhp (hI.kept p);have HP:=qhp (hP.kept p);have⟨HX,C,c8,d⟩:=j8 hx u s A;have H:=p.cl z;have G:=p.cl y;have W:=p.cl hV;have k9:=p.size;have a0:=qp b (show 0<5 by omega);have a1:=qp b (show 1<5 by omega);have a2:=qp b (show 2<5 by omega);have a3:=qp b (show 3<5 by omega);have a4:=qp b (show 4<5 by omega);rw[h4,h6,h8,h9];have SC:=qhp (qi8 H (qi8 G W));clear hR hI hP hx u s A z y hV p h4 h6 h8 h9 b;simp only[wR9,jN,qmd,qhC,sqA,sqB,inn];obtain⟨Z,n⟩:∃Z,qx c g l=Z:=⟨_,rfl⟩;obtain⟨X,k⟩:∃X,qx c h l=X:=⟨_,rfl⟩;rw[n,k] at F;have⟨B,b6⟩:=qE n k;clear n k;cases Z
 ·go_wp2_with fail;refine(kF r q _ _ c f l g _ ⟨_,rfl,HP⟩ HI (by omega) o HX hl C).mono ?_;rintro e w5 ⟨rfl,a⟩;rw[B];have j:=qhp a;clear a H G W a0 a1 a2 a3 a4;go_wp2;exact F _ _ _ _ _ _ _ _ _ _ _ j
 ·go_wp2_with fail;refine(kF r q _ _ c f l g _ ⟨_,rfl,HP⟩ HI (by omega) o HX hl C).mono ?_;rintro e w5 ⟨rfl,a⟩;rw[B];have b0:=qp (bk a d) (show 0<5 by omega);have b1:=qp (bk a d) (show 1<5 by omega);have b2:=qp (bk a d) (show 2<5 by omega);have b3:=qp (bk a d) (show 3<5 by omega);have b4:=qp (bk a d) (show 4<5 by omega);have z0:=a.cl SC.1;have z1:=a.cl SC.2.1;have z2:=a.cl SC.2.2;have hz:=a.size;have b7:=qhp (HP.kept a);have b9:=qhp (HI.kept a);have j:=qhp a;clear a H G W a0 a1 a2 a3 a4;go_wp2_with fail;refine(kF r q _ _ c f l h _ ⟨_,rfl,b7⟩ b9 (by omega) o HX hl c8).mono ?_;rintro e w6 ⟨rfl,v⟩;rw[b6];have D:=qhp v;clear v b0 b1 b2 b3 b4 z0 z1 z2;cases X
  ·go_wp2;exact F _ _ _ _ _ _ _ _ _ _ _ (j.t D)
  ·go_wp2;exact F _ _ _ _ _ _ _ _ _ _ _ (j.t D)
end
section
open Go Go.RowKit Go.Conc Go.ConcN Go.ConcN.Gen Go.Conc.Lib Go.ConcR.Gen Go.Co Go.Sim
def qM:qkh->Array qjn | .region _ ops _=>ops | _=>#[]
noncomputable def wLB:qkh:=inn (inn (sqB (Tryz.f139.body.getD .skip)))
noncomputable def qds:Array qjn:=qM (sqA jN)
noncomputable def qbc:Array qjn:=qM (sqA (sqA (sqB jN)))
noncomputable def Zn:Array qjn:=qM (sqA (sqB (Tryz.f141.body.getD .skip)))
noncomputable def Zm:Array qjn:=qM (sqA (sqB (Tryz.f142.body.getD .skip)))
noncomputable def Y7:Array qjn:=qM (Tryz.f143.body.getD .skip)
noncomputable def jz:List qlG:=[.inLoop wLB,.inBlock 0]
def pt(b:Nat):qhu:=.pointer (some b)
noncomputable def f1(a:Array qhu)(D:List qjH):qhG:=(qjm 139).at ⟨a,D⟩ (.inRegion qds [0,1,2]::.code (sqB jN)::.inBlock 1::jz)
def Ke(x:Array qhu)(h:x.size=60):∃y0 y1 y2 y3 y4 y5 y6 y7 y8 y9 b7 b6 b0 a9 a8 a7 a6 Z Y X W V U T R Q P O N M L I H G F D C B A z y w v u s r q p o n l k j i g f d c b a,x=#[y0,y1,y2,y3,y4,y5,y6,y7,y8,y9,b7,b6,b0,a9,a8,a7,a6,Z,Y,X,W,V,U,T,R,Q,P,O,N,M,L,I,H,G,F,D,C,B,A,z,y,w,v,u,s,r,q,p,o,n,l,k,j,i,g,f,d,c,b,a]:=by
 have e:=QQ x;rw[h] at e;exact⟨_,_,_,_,_,_,_,_,_,_,_,_,_,_,_,_,_,_,_,_,_,_,_,_,_,_,_,_,_,_,_,_,_,_,_,_,_,_,_,_,_,_,_,_,_,_,_,_,_,_,_,_,_,_,_,_,_,_,_,_,e.t rfl⟩
def q4A{Fz S:Bs}{A o a:Nat}(h:Fz A)(g:A<a):EvC Fz S a ⟨.cell ⟨A,o,none⟩,false,Mode.plain == Mode.atomic⟩:=by
 refine⟨⟨by simp,by simp,by simp⟩,λm hm=>by simp at hm,λx d b f=>?_⟩;have c:x=⟨.cell ⟨A,o,none⟩,false,.plain⟩:=by
  have e:(Mode.plain == Mode.atomic)=false:=by decide
  rw[e] at d;simp[qjq,qkg] at d;exact d.symm
 subst c;simp only[Go.Co.blk,qiD] at f;subst f;exact⟨g,rfl,.inr ⟨h,rfl⟩⟩
noncomputable def c20:qkh:=sqB (sqA (sqB jN))
noncomputable def wX:qkh:=sqB (sqB jN)
noncomputable def f2(a:Array qhu)(D:List qjH):qhG:=(qjm 139).at ⟨a,D⟩ (.inRegion qbc [5,6]::.code c20::.code wX::.inBlock 1::jz)
section
variable{Fz:Bs}{K:qhr->qhr->Prop}{Stop:Bs->qhw->qhr->Prop}{S:Bs}(hK:∀a b c,K a b->K b c->K a c)
include hK
theorem qdk{d:Array qhu}{D:List qjH}{b:List qhG}{c:Nat}{w:qhr}(e:d[1]?.getD qhx=pt c)(a:∀w₁,RC Fz K S w w₁->Stop S (G ((qij 141).at ⟨#[pt c,.int .i64 1,qhx,qhx,.int .i64 0,pt c,pt c,pt c,.int .i64 1,qhx],[]⟩ [.inRegion Zn [4,5],.code .ret]) (f1 d D::b)) w₁) :qm qi2 Fz K Stop S (G ((qjm 139).at ⟨d,D⟩ (.code wLB::jz)) b) w:=by
 simp only[f1,qds,Zn,wLB,jN,jz,qmd,qoC,qhC,sqA,sqB,inn,qM] at a ⊢;refine qm.block hK ?_;refine qm.seq hK ?_;refine qm.region hK ?_;simp only[qim,qhE,qi1,qib,qi6,qil,qj2];refine qm.enter hK rfl rfl (by k_ne) rfl qrj (by kernel_rfl) rfl ?_
 walk_nrmf qoC
 rw[e];simp only[pt] at a ⊢;refine qm.seq hK ?_;refine qm.region hK ?_;simp only[qim,qhE,qi1,qib,qi6,qil,qj2];refine qm.value hK (.int .i64 0) rfl rfl (by k_ne) (λ_=>by go_simp) (λ_=>by simp[go_sem]) ?_;walk_nrm;refine qm.region_end hK ?_;refine qm.seq hK ?_;refine qm.region hK ?_;simp only[qim,qhE,qi1,qib,qi6,qil,qj2];refine qm.value hK (.pointer (some c)) rfl rfl (by k_ne) (λ_=>by go_simp) (λ_=>by simp[go_sem]) ?_;walk_nrm;refine qm.value hK (.pointer (some c)) rfl rfl (by k_ne) (λ_=>by go_simp) (λ_=>by simp[go_sem]) ?_;walk_nrm;refine qm.value hK (.pointer (some c)) rfl rfl (by k_ne) (λ_=>by go_simp) (λ_=>by simp[go_sem]) ?_;walk_nrm;refine qm.value hK (.int .i64 1) rfl rfl (by k_ne) (λ_=>by go_simp) (λ_=>by simp[go_sem]) ?_;walk_nrm;exact qm.stop a
theorem qdj[JunkSet]{d:Array qhu}(g:d.size=60){D:List qjH}{b:List qhG}{f c A i N:Nat}{av:qhu}{l:Option qiG}{k:Nat}{w:qhr}(p:d[2]?.getD qhx=pt A)(o:d[3]?.getD qhx=pt c)(hA:∀w₁,RC Fz K S w w₁->w₁.cell? A=some (.slice l N k))(j:Fz A)(h:A<w.heap.size)(hi:i<N)(hN:N<=1000000)(a:∀w₁,RC Fz K S w w₁->Stop S (G ((qij 142).at ⟨#[pt c,qhx,.bool false,pt c,pt c,pt c,qhx,qhx],[]⟩ [.inRegion Zm [3,4,5],.code .ret]) (f2 ((((((((d.setIfInBounds 12 (.int .i64 (i+1))).setIfInBounds 13 (.int .i64 i)).setIfInBounds 7 (.int .i64 i)).setIfInBounds 14 (.int .i64 i)).setIfInBounds 15 (.slice l N k)).setIfInBounds 16 (.int .i64 N)).setIfInBounds 17 (.bool false)).setIfInBounds 18 (.bool false)) D::b)) w₁) :qm qi2 Fz K Stop S (G ((qij 141).at ⟨#[pt f,.int .i64 1,qhx,qhx,.int .i64 0,pt f,pt f,pt f,.int .i64 1,.int .i64 (i+1)],[]⟩ [.inRegion Zn [5],.code .ret]) (f1 d D::b)) w:=by
 obtain⟨y0,y1,y2,y3,y4,y5,y6,y7,y8,y9,e9,e8,e7,e6,e5,e4,d9,d8,d7,d6,d5,c9,c8,c3,b9,b8,b7,b6,b0,a9,a8,a7,a6,Z,Y,X,W,V,U,T,R,Q,P,O,M,L,I,H,F,C,B,z,y,x,v,u,t,s,r,q,rfl⟩:=Ke d g;simp only[f1,f2,c20,wX,qds,qbc,Zn,Zm,wLB,jN,jz,qmd,qoC,qod,qhC,sqA,sqB,inn,qM] at a ⊢;simp at p o;subst p o;simp only[qpj,qr7,qr8] at a;simp only[pt] at a ⊢;have g5:IntKind.i64.wrap (i:Int)=i:=qin _ (by omega);refine qm.value hK (.int .i64 (i+1)) rfl rfl (by k_ne) (λ_=>by go_simp) (λ_=>by simp[go_sem]) ?_;walk_nrm;refine qm.region_end hK ?_;refine qm.retS hK ?_;refine qm.leave1 hK rfl rfl qrj rfl ?_;walk_nrm;refine qm.value hK (.int .i64 i) rfl rfl (by k_ne) (λ_=>by go_simp) (λ_=>by simp[go_sem]) ?_;walk_nrm;refine qm.value hK (.int .i64 i) rfl rfl (by k_ne) (λ_=>by go_simp) (λ_=>by simp[go_sem]) ?_;walk_nrm;refine qm.region_end hK ?_;refine qm.seq hK ?_;refine qm.seq hK ?_;refine qm.region hK ?_;simp only[qim,qhE,qi1,qib,qi6,qil,qj2];refine qm.value hK (.int .i64 i) rfl rfl (by k_ne) (λ_=>by go_simp) (λ_=>by simp[go_sem]) ?_;walk_nrm;refine qm.load hK (.slice l N k) rfl rfl (by k_ne) (λw₁ h₁=>?_) ?_
 ·have hc:=hA w₁ h₁;refine⟨by go_simp,λe n=>?_⟩;simp[go_sem,hc] at n;rw[n];exact q4A j (qi0 h h₁.size)
 walk_nrm;refine qm.value hK (.int .i64 N) rfl rfl (by k_ne) (λ_=>by go_simp) (λ_=>by simp[go_sem]) ?_;walk_nrm;refine qm.value hK (.bool false) rfl rfl (by k_ne) (λ_=>by go_simp) (λ_=>by simp[go_sem]) ?_;walk_nrm;refine qm.value hK (.bool false) rfl rfl (by k_ne) (λ_=>by go_simp) (λ_=>by simp[go_sem]) ?_;walk_nrm;refine qm.enter hK rfl rfl (by k_ne) rfl qop (by kernel_rfl) rfl ?_
 walk_nrmf qod
 refine qm.seq hK ?_;refine qm.region hK ?_;simp only[qim,qhE,qi1,qib,qi6,qil,qj2];refine qm.value hK (.bool false) rfl rfl (by k_ne) (λ_=>by go_simp) (λ_=>by simp[go_sem]) ?_;walk_nrm;refine qm.region_end hK ?_;refine qm.seq hK ?_;refine qm.region hK ?_;simp only[qim,qhE,qi1,qib,qi6,qil,qj2];refine qm.value hK (.pointer (some c)) rfl rfl (by k_ne) (λ_=>by go_simp) (λ_=>by simp[go_sem]) ?_;walk_nrm;refine qm.value hK (.pointer (some c)) rfl rfl (by k_ne) (λ_=>by go_simp) (λ_=>by simp[go_sem]) ?_;walk_nrm;refine qm.value hK (.pointer (some c)) rfl rfl (by k_ne) (λ_=>by go_simp) (λ_=>by simp[go_sem]) ?_;walk_nrm;exact qm.stop a
end
end
section
open Go Go.RowKit Go.Conc Go.ConcN Go.ConcN.Gen Go.Conc.Lib Go.ConcR.Gen Go.Co Go.Sim
noncomputable def bot:qhG:={ (default:qhG) with fn:=Tryz.prog.funcs.size,mode:=.panicking [goexitEntry] }
def dn(a:Nat):List qjH:=[Go.Conc.dcall 140 #[pt a]]
section
variable{Fz:Bs}{K:qhr->qhr->Prop}{Stop:Bs->qhw->qhr->Prop}{S:Bs}(hK:∀a b c,K a b->K b c->K a c)
include hK
theorem qb4[JunkSet]{b:Array qhu}(g:b.size=60){D:List qjH}{a:List qhG}{f A i N:Nat}{p:Option qiG}{o:Nat}{w:qhr}(n:b[2]?.getD qhx=pt A)(hA:∀w₁,RC Fz K S w w₁->w₁.cell? A=some (.slice p N o))(j:Fz A)(h:A<w.heap.size)(hi:N<=i)(hN:i<=1000000)(d:∀b c,qm qi2 Fz K Stop S (G { (qjm 139).at ⟨b,D⟩ c with mode:=.returning } a) w) :qm qi2 Fz K Stop S (G ((qij 141).at ⟨#[pt f,.int .i64 1,qhx,qhx,.int .i64 0,pt f,pt f,pt f,.int .i64 1,.int .i64 (i+1)],[]⟩ [.inRegion Zn [5],.code .ret]) (f1 b D::a)) w:=by
 obtain⟨y0,y1,y2,y3,y4,y5,y6,y7,y8,y9,e9,e8,e7,e6,e5,e4,d9,d8,d7,d6,d5,c9,c8,c3,b9,b8,b7,b6,b0,a9,a8,a7,a6,Z,Y,X,W,V,U,T,R,Q,P,O,M,L,I,H,F,C,B,z,y,x,v,u,t,s,r,q,rfl⟩:=Ke b g;simp only[f1,qds,qbc,Zn,wLB,jN,jz,qmd,qoC,qhC,sqA,sqB,inn,qM];simp at n;subst n;simp only[pt];have g5:IntKind.i64.wrap (i:Int)=i:=qin _ (by omega);have g6:decide ((N:Int)<=(i:Int))=true:=by simp;omega
 have k:decide (N<=i)=true:=by simp;omega
 refine qm.value hK (.int .i64 (i+1)) rfl rfl (by k_ne) (λ_=>by go_simp) (λ_=>by simp[go_sem]) ?_;walk_nrm;refine qm.region_end hK ?_;refine qm.retS hK ?_;refine qm.leave1 hK rfl rfl qrj rfl ?_;walk_nrm;refine qm.value hK (.int .i64 i) rfl rfl (by k_ne) (λ_=>by go_simp) (λ_=>by simp[go_sem]) ?_;walk_nrm;refine qm.value hK (.int .i64 i) rfl rfl (by k_ne) (λ_=>by go_simp) (λ_=>by simp[go_sem]) ?_;walk_nrm;refine qm.region_end hK ?_;refine qm.seq hK ?_;refine qm.seq hK ?_;refine qm.region hK ?_;simp only[qim,qhE,qi1,qib,qi6,qil,qj2];refine qm.value hK (.int .i64 i) rfl rfl (by k_ne) (λ_=>by go_simp) (λ_=>by simp[go_sem]) ?_;walk_nrm;refine qm.load hK (.slice p N o) rfl rfl (by k_ne) (λw₁ h₁=>?_) ?_
 ·have hc:=hA w₁ h₁;refine⟨by go_simp,λe l=>?_⟩;simp[go_sem,hc] at l;rw[l];exact q4A j (qi0 h h₁.size)
 walk_nrm;refine qm.value hK (.int .i64 N) rfl rfl (by k_ne) (λ_=>by go_simp) (λ_=>by simp[go_sem]) ?_;walk_nrm;refine qm.value hK (.bool true) rfl rfl (by k_ne) (λ_=>by go_simp) (λ_=>by simp[go_sem]) ?_;walk_nrm;refine qm.value hK (.bool true) rfl rfl (by k_ne) (λ_=>by go_simp) (λ_=>by simp[go_sem]) ?_;walk_nrm;refine qm.unwanted hK rfl rfl ?_;walk_nrm;refine qm.value hK (.bool true) rfl rfl (by k_ne) (λ_=>by go_simp) (λ_=>by simp[go_sem]) ?_;walk_nrm;refine qm.region_end hK ?_;refine qm.cond hK true rfl ?_;simp only[if_true];refine qm.retS hK ?_;exact d _ _
theorem qb2{b:Array qhu}(g:b.size=60){D:List qjH}{a:List qhG}{f:Nat}{w:qhr}(e:b[18]?.getD qhx=.bool false)(d:∀b c,qm qi2 Fz K Stop S (G { (qjm 139).at ⟨b,D⟩ c with mode:=.returning } a) w) :qm qi2 Fz K Stop S (G ((qij 142).at ⟨#[pt f,qhx,.bool false,pt f,pt f,pt f,.int .u32 1,qhx],[]⟩ [.inRegion Zm [4,5],.code .ret]) (f2 b D::a)) w:=by
 obtain⟨y0,y1,y2,y3,y4,y5,y6,y7,y8,y9,d5,c9,c8,c3,b9,b8,b7,b6,b0,a9,a8,a7,a6,Z,Y,X,W,V,U,T,R,Q,P,O,N,M,L,I,H,F,C,B,A,z,y,x,v,u,t,s,r,q,p,o,n,l,k,j,i,h,rfl⟩:=Ke b g;simp only[f2,c20,wX,qbc,Zm,wLB,jN,jz,qmd,qod,qhC,sqA,sqB,inn,qM];simp at e;subst e;simp only[pt];refine qm.value hK (.bool true) rfl rfl (by k_ne) (λ_=>by go_simp) (λ_=>by simp[go_sem]) ?_;walk_nrm;refine qm.value hK (.bool true) rfl rfl (by k_ne) (λ_=>by go_simp) (λ_=>by simp[go_sem]) ?_;walk_nrm;refine qm.region_end hK ?_;refine qm.retS hK ?_;refine qm.leave1 hK rfl rfl qop rfl ?_;walk_nrm;refine qm.value hK (.bool true) rfl rfl (by k_ne) (λ_=>by go_simp) (λ_=>by simp[go_sem]) ?_;walk_nrm;refine qm.region_end hK ?_;refine qm.cond hK true rfl ?_;simp only[if_true];refine qm.retS hK ?_;exact d _ _
theorem qb3{c:Array qhu}(f:c.size=60){D:List qjH}{b:List qhG}{e:Nat}{w:qhr}(d:c[18]?.getD qhx=.bool false)(a:qm qi2 Fz K Stop S (G ((qjm 139).at ⟨(c.setIfInBounds 19 (.bool false)).setIfInBounds 20 (.bool false),D⟩ (.code wX::.inBlock 1::jz)) b) w) :qm qi2 Fz K Stop S (G ((qij 142).at ⟨#[pt e,qhx,.bool false,pt e,pt e,pt e,.int .u32 0,qhx],[]⟩ [.inRegion Zm [4,5],.code .ret]) (f2 c D::b)) w:=by
 obtain⟨y0,y1,y2,y3,y4,y5,y6,y7,y8,y9,c9,c8,c3,b9,b8,b7,b6,b0,a9,a8,a7,a6,Z,Y,X,W,V,U,T,R,Q,P,O,N,M,L,I,H,F,C,B,A,z,y,x,v,u,t,s,r,q,p,o,n,l,k,j,i,h,g,rfl⟩:=Ke c f;simp only[f2,c20,wX,qbc,Zm,wLB,jN,jz,qmd,qod,qhC,sqA,sqB,inn,qM] at a ⊢;simp at d;subst d;simp only[pt];simp only[qpj,qr7,qr8] at a;refine qm.value hK (.bool false) rfl rfl (by k_ne) (λ_=>by go_simp) (λ_=>by simp[go_sem]) ?_;walk_nrm;refine qm.value hK (.bool false) rfl rfl (by k_ne) (λ_=>by go_simp) (λ_=>by simp[go_sem]) ?_;walk_nrm;refine qm.region_end hK ?_;refine qm.retS hK ?_;refine qm.leave1 hK rfl rfl qop rfl ?_;walk_nrm;refine qm.value hK (.bool false) rfl rfl (by k_ne) (λ_=>by go_simp) (λ_=>by simp[go_sem]) ?_;walk_nrm;refine qm.region_end hK ?_;refine qm.cond hK false rfl ?_;simp only[if_false,qiv];refine qm.skip hK ?_;exact a
end
end
section
open Go Go.RowKit Go.Conc Go.ConcN Go.ConcN.Gen Go.Conc.Lib Go.ConcR.Gen Go.Co Go.Sim
noncomputable def q3a:qkh:=sqB (sqB (sqB (sqB (sqB jN))))
noncomputable def q6b:Array qjn:=qM (match q3a with | .cond _ r _=>r | c=>c)
noncomputable def f10(a:Array qhu)(D:List qjH):qhG:=(qjm 139).at ⟨a,D⟩ (.inRegion q6b [0]::.inBlock 1::jz)
structure I14(Fd:Nat)(l:Array Bool)(a:Act):Prop where
 c1:l[1]?.getD false=true->l[0]?.getD false=true
 c2:l[2]?.getD false=true->l[1]?.getD false=true
 c4:l[4]?.getD false=true->l[3]?.getD false=true
 c5:l[5]?.getD false=false
 ac:∃T4 T5 T6 T7 T8,a=⟨#[.pointer (some Fd),.bool true,qhx,qhx,T4,T5,T6,T7,T8,qhx],[]⟩/\(l[0]?.getD false=true->T4=.pointer (some Fd))/\(l[1]?.getD false=true->T5=.pointer (some Fd))/\(l[2]?.getD false=true->T6=.pointer (some Fd))/\(l[3]?.getD false=true->T7=.bool true)/\(l[4]?.getD false=true->T8=.int .u32 1)
section
variable{Fz:Bs}{K:qhr->qhr->Prop}{Stop:Bs->qhw->qhr->Prop}{S:Bs}(hK:∀a b c,K a b->K b c->K a c)
include hK
theorem qdg{c:Array qhu}(e:c.size=60){D:List qjH}{a:List qhG}{w:qhr}(d:c[58]?.getD qhx=.bool false)(b:qm qi2 Fz K Stop S (G ((qjm 139).at ⟨c,D⟩ (.code wLB::jz)) a) w) :qm qi2 Fz K Stop S (G ((qjm 139).at ⟨c,D⟩ (.code q3a::.inBlock 1::jz)) a) w:=by
 obtain⟨y0,y1,y2,y3,y4,y5,y6,y7,y8,y9,c8,c3,b9,b8,b7,b6,b0,a9,a8,a7,a6,Z,Y,X,W,V,U,T,R,Q,P,O,N,M,L,I,H,F,C,B,A,z,y,x,v,u,t,s,r,q,p,o,n,l,k,j,i,h,g,f,rfl⟩:=Ke c e;simp only[q3a,wLB,jN,jz,qmd,qhC,sqA,sqB,inn] at b ⊢;simp at d;subst d;refine qm.cond hK false rfl ?_;simp only[if_false,qiv];refine qm.skip hK ?_;refine qm.inBlock hK ?_;refine qm.inLoop hK ?_;exact b
theorem qdi{d:Array qhu}{D:List qjH}{a:List qhG}{c:Nat}{w:qhr}(b:qm qi2 Fz K Stop S (G ((qjm 139).at ⟨d.setIfInBounds 59 (.tuple #[]),D⟩ (.code wLB::jz)) a) w) :qm qi2 Fz K Stop S (G ((qij 143).at ⟨#[pt c,.bool true,qhx,qhx,pt c,pt c,pt c,.bool true,.int .u32 1,.tuple #[]],[]⟩ [.inRegion Y7 []]) (f10 d D::a)) w:=by
 simp only[f10,q6b,Y7,q3a,wLB,jN,jz,qmd,qpb,qhC,sqA,sqB,inn,qM] at b ⊢;refine qm.region_end hK ?_;refine qm.endS hK ?_;refine qm.leave0 hK rfl rfl Tryz.func143 rfl ?_;refine qm.region_end hK ?_;refine qm.inBlock hK ?_;refine qm.inLoop hK ?_;exact b
theorem qdf(M:∀w n,K w { w with drawn:=n }){tm:Array qhu}(hsz:tm.size=60){D:List qjH}{real:List qhG}{Fd:Nat}{w:qhr}(h3:tm[3]?.getD qhx=pt Fd)(h58:tm[58]?.getD qhx=.bool true)(hstop:∀w₁,RC Fz K S w w₁->Stop S (G ((qij 143).at ⟨#[pt Fd,.bool true,qhx,qhx,pt Fd,pt Fd,pt Fd,.bool true,.int .u32 1,qhx],[]⟩ [.inRegion Y7 [5]]) (f10 tm D::real)) w₁) :qm qi2 Fz K Stop S (G ((qjm 139).at ⟨tm,D⟩ (.code q3a::.inBlock 1::jz)) real) w:=by
 obtain⟨y0,y1,y2,y3,y4,y5,y6,y7,y8,y9,m6,m5,m4,m3,l9,l8,l7,l6,l5,l4,k9,k8,k7,k6,k5,h9,h8,g9,g8,g7,g6,g5,e9,e8,e7,e6,e5,e4,d9,d8,d7,d6,d5,c9,c8,c3,b9,b8,b7,b6,b0,a9,a8,a7,a6,Z,Y,X,W,V,rfl⟩:=Ke tm hsz;simp only[f10,q6b,Y7,q3a,wLB,jN,jz,qmd,qpb,qhC,sqA,sqB,inn,qM] at hstop ⊢;simp at h3 h58;subst h3 h58;simp only[pt] at hstop ⊢;refine qm.cond hK true rfl ?_;simp only[if_true];refine qm.region hK ?_;simp only[qim,qhE,qi1,qib,qi6,qil,qj2];refine qm.enter hK rfl rfl (by k_ne) rfl Tryz.func143 (by kernel_rfl) rfl ?_
 walk_nrmf qpb
 refine qm.region_inv hK (by kernel_rfl) M (I14 Fd) ?_ ?_ ?_
 ·exact⟨by simp,by simp,by simp,by simp,qhx,qhx,qhx,qhx,qhx,rfl,by simp,by simp,by simp,by simp,by simp⟩
 ·rintro l a i g ⟨A,z,y,p,I,H,C,F,B,rfl,u,t,s,r,q⟩ v x k d;have o:=(zz v).1;have n6:l.size=6:=g;have c:∀i j,i<6->(l.setIfInBounds i true)[j]?.getD false=if i=j then true else l[j]?.getD false:=λi j h=>QP l i j (by omega);have n4:=ZO v;have o:i=0\/i=1\/i=2\/i=3\/i=4\/i=5:=by
   have:i<6:=o;omega
  rcases o with rfl | rfl | rfl | rfl | rfl | rfl
  ·refine qm.value hK (.pointer (some Fd)) rfl rfl (by k_ne) (λ_=>by go_simp) (λ_=>by simp[go_sem]) ?_;walk_nrm;exact d _ ⟨by simp[c],by simpa[c] using λh=>(z h),by simpa[c] using y,by simpa[c] using p,_,H,C,F,B,rfl,λ_=>rfl,by simpa[c] using t,by simpa[c] using s,by simpa[c] using r,by simpa[c] using q⟩
  ·have b:=zw v rfl;simp[qj0] at b;obtain rfl:=u (by simp[b]);refine qm.value hK (.pointer (some Fd)) rfl rfl (by k_ne) (λ_=>by go_simp) (λ_=>by simp[go_sem]) ?_;walk_nrm;exact d _ ⟨by simp[c,b],by simp[c],by simpa[c] using y,by simpa[c] using p,_,_,C,F,B,rfl,λ_=>rfl,λ_=>rfl,by simpa[c] using s,by simpa[c] using r,by simpa[c] using q⟩
  ·have b:=zw v rfl;simp[qj0] at b;obtain rfl:=t (by simp[b]);refine qm.value hK (.pointer (some Fd)) rfl rfl (by k_ne) (λ_=>by go_simp) (λ_=>by simp[go_sem]) ?_;walk_nrm;exact d _ ⟨by simpa[c] using A,by simp[c,b],by simpa[c] using y,by simpa[c] using p,I,_,_,F,B,rfl,by simpa[c] using u,λ_=>rfl,λ_=>rfl,by simpa[c] using r,by simpa[c] using q⟩
  ·refine qm.value hK (.bool true) rfl rfl (by k_ne) (λ_=>by go_simp) (λ_=>by simp[go_sem]) ?_;walk_nrm;exact d _ ⟨by simpa[c] using A,by simpa[c] using z,by simp[c],by simpa[c] using p,I,H,C,_,B,rfl,by simpa[c] using u,by simpa[c] using t,by simpa[c] using s,λ_=>rfl,by simpa[c] using q⟩
  ·have b:=zw v rfl;simp[qj0] at b;obtain rfl:=r (by simp[b]);refine qm.enter hK rfl rfl (by k_ne) rfl Tryz.func182 (by kernel_rfl) rfl ?_
   walk_nrmf Tryz.f182
   refine qm.seq hK ?_;refine qm.region hK ?_;simp only[qim,qhE,qi1,qib,qi6,qil,qj2];refine qm.value hK (.int .u32 0) rfl rfl (by k_ne) (λ_=>by go_simp) (λ_=>by simp[go_sem]) ?_;walk_nrm;refine qm.region_end hK ?_;refine qm.seq hK ?_;refine qm.seq hK ?_;refine qm.region hK ?_;simp only[qim,qhE,qi1,qib,qi6,qil,qj2];refine qm.value hK (.bool true) rfl rfl (by k_ne) (λ_=>by go_simp) (λ_=>by simp[go_sem]) ?_;walk_nrm;refine qm.region_end hK ?_;refine qm.cond hK true rfl ?_;simp only[if_true];refine qm.seq hK ?_;refine qm.region hK ?_;simp only[qim,qhE,qi1,qib,qi6,qil,qj2];refine qm.value hK (.int .u32 1) rfl rfl (by k_ne) (λ_=>by go_simp) (λ_=>by simp[go_sem]) ?_;walk_nrm;refine qm.region_end hK ?_;refine qm.retS hK ?_;refine qm.leave1 hK rfl rfl Tryz.func182 rfl ?_;walk_nrm;exact d _ ⟨by simpa[c] using A,by simpa[c] using z,by simp[c,b],by simpa[c] using p,I,H,C,_,_,rfl,by simpa[c] using u,by simpa[c] using t,by simpa[c] using s,λ_=>rfl,λ_=>rfl⟩
  ·have b:=zw v rfl;simp[qj0] at b;have O:l[2]?.getD false=true:=by simp[b]
   have N:l[4]?.getD false=true:=by simp[b]
   have P:=z O;have U:=A P;have T:=y N;obtain rfl:=u U;obtain rfl:=t P;obtain rfl:=s O;obtain rfl:=r T;obtain rfl:=q N;have f:x=[]:=k (by
    simp only[qia,List.filter_eq_nil_iff,qjC,qic,qkz,not_and];intro j hj R;exfalso;have n7:j<6:=hj;have L:j<(l.setIfInBounds 5 true).size:=by simp;omega
    have e:(l.setIfInBounds 5 true)[j]?.getD false=true:=by
     rw[c 5 j (by omega)];obtain rfl | rfl | rfl | rfl | rfl | rfl:j=0\/j=1\/j=2\/j=3\/j=4\/j=5:=by omega
     all_goals simp[U,P,O,T,N]
    simp only[qjg,qih L,qhC] at R e;rw[R] at e;cases e)
   subst f;exact qm.stop hstop
 ·rintro l a g ⟨A,z,y,p,I,H,C,F,B,rfl,u,t,s,r,q⟩ f;have q0:=zZ f g (i:=0) rfl (by simp[qj0]);have q1:=zZ f g (i:=1) rfl (by simp[qj0,q0]);have q2:=zZ f g (i:=2) rfl (by simp[qj0,q1]);have q3:=zZ f g (i:=3) rfl (by simp[qj0]);have q4:=zZ f g (i:=4) rfl (by simp[qj0,q3]);have Q:=zZ f g (i:=5) rfl (by simp[qj0,q2,q4]);rw[p] at Q;cases Q
end
end
end Go.Proofs.YtidgnkmjgioapaaGreat
