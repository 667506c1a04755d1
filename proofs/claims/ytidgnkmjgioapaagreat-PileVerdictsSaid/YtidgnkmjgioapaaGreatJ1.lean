/-
  Part 4 of the proof. gladstonelaw04.PileVerdicts answers true for every yard, parcel, pile, number and list of numbers that the statement takes, and leaves its arguments as they were. No conditions.
-/
import Derived.Test.YtidgnkmjgioapaaGreatG2
import Derived.Test.YtidgnkmjgioapaaGreatL1
import Derived.RangeFuncBox
import Derived.DeepKeys
import Derived.RangeFuncNested
import Derived.RangeFuncBound
import Derived.RangeFuncCalls
import Derived.RangeFuncLeaves
import Derived.Shelf.Abstract
import Derived.WalkKit
import Derived.OwnWalkIn
import Derived.TacticsInMore
import Derived.LoopNIn
import Derived.LoopIn
import Derived.Laws.CopyOwn
import Derived.Laws.CopyRow
import Derived.Laws.IdiomCopy
import Derived.Recover
import Derived.Defers
import Derived.RangeFuncOwn
import Derived.WalkMore
set_option maxRecDepth 100000
set_option maxHeartbeats 8000000
set_option linter.all false
open And renaming intro->qie
open Array renaming getElem?_append_left->qnu,getElem?_eq_some_iff->qhB,getElem?_setIfInBounds_ne->qjj,getElem?_setIfInBounds_self_of_lt->ql9,replicate_succ->qij,replicate_zero->qik
open Bool renaming and_eq_true->qio,false_eq_true->qiC
open Classical renaming byContradiction->qiG,em->qnB
open Go renaming Addr->qj5,Calls->qiw,Code->qkk,Deferred->qk6,Frame->qi5,FuncId->qjf,block_lt_of_cell->qqA,Goroutine->qhD,Item->qm1,MapEntry->qlp,Oper->qjx,Operand->qj0,Program->qi4,TypeId->qid,Value->qhC,World->qhy,bodyPost_ret->qjw,callsIn_of_wp->qpy,callsIn_of_wp_marks->qpc,callsIn_wide->qkx,execOp->ql0,grownBy_putObj'->qls,grownCap->qm4,heap_alloc_new->qhH,info_parts->qk1,leaves_cons->qoe,maxLen->qlc,ownsRow_succ->qme,results->qkh,run_takeDeferred->qoB,run_underlying->qoq,step_append_lies->qn0,undef->qhE,wpList_append_lies->qpo,wpList_append_own->ql8,yielded->qjG,zeroValue->qmE
open Go.Builtin renaming append_->qlz,clear_->qoh,copy_->qpt,zeroCells->qkl
open Go.Calls renaming quiet_of_same->qk7
open Go.Code renaming wp_mono->qop
open Go.Conc renaming base->qir,baseD->qju
open Go.Exit renaming inBlock->qmy,jump->qqu
open Go.Instr renaming checkKey->qm0,findAsking->qmg,findKey->qmz,lookup->qny,makeMap->qpu,mapUpdate->qjH
open Go.IntWalk renaming i64_in->qiv
open Go.Lib renaming hid->qhw
open Go.MemAct renaming ofEvent->qjy,touch?->qkj
open Go.Proofs.Tryz renaming f137->qqt,f139->qmk,f141->qoC,f142->qof,f54->qnG,func142->qor,ntmps157->qr3,ntmps84->qq7,ntmps98->qro,prog->qi8,results102->qs3,results54->qs7,underlying29->qmv
open Go.Region renaming binds->qj8,wanted->qiy
open Go.Result renaming andThen->qnt,andThen_ok->qjv
open Go.RowKit renaming intOf->qj7
open Go.RowKit.Below renaming heap_setCell->qji,refl->qoa
open Go.Sem renaming run->qjk,run_bind->qjz,run_pure->qn8
open Go.Value renaming cells->qp3,int->qim,oneCell'->qjF,ownBlock->qiF,slice->qiH
open Go.World renaming cell?->qiA,grownBy_alloc->qhx,news_of_block->qjh,ownsRow_nil->qjE,putObj_heap_same->qnb,setCell->qki,size_alloc->qi6
open Go.World.grownBy renaming refl->qi2
open List renaming all_eq_true->qje,append_assoc->qkt,append_nil->qo3,append_toArray->qlm,cons_append->qi9,drop_eq_getElem_cons->qkE,drop_eq_nil_of_le->qli,drop_succ_cons->qig,drop_zero->qit,eq_nil_of_length_eq_zero->qjq,ext_getElem->qrD,ext_getElem?->qmx,filter_append->qlF,find?_eq_none->qmp,flatMap_append->qqz,flatMap_cons->qku,foldl_append->qrm,forall_mem_cons->qp6,forall_mem_nil->qpd,getElem?_append_left->qiD,getElem?_append_right->qkb,getElem?_eq_getElem->qhG,getElem?_eq_some_iff->qic,getElem?_map->qjA,getElem?_of_mem->qp4,getElem?_set_ne->qld,getElem?_set_self->qmd,getElem?_take->qn9,getElem?_take_of_lt->qjC,length_append->qjm,length_cons->qi3,length_filter_le->qko,length_map->qlB,length_nil->qi7,length_pos_iff->qm9,length_set->qo4,length_singleton->qov,length_take->qkC,map_append->qk0,map_cons->qle,map_nil->qna,map_toArray->qn1,mem_append->qkn,mem_cons->qjB,mem_filter->qpa,mem_map->qmc,mem_of_getElem?->qih,mem_of_mem_take->qmw,mem_range->qkg,mem_singleton->qkv,nil_append->qin,not_mem_nil->qk5,push_toArray->qiq,range->qiz,range'->qp2,range_succ->qm5,replicate->qs6,size_toArray->qiu,takeWhile_cons_of_pos->qnv,take_add_one->qja,take_length->qjt,take_sublist->qrn
open List.cons renaming injEq->ql3
open List.range renaming loop->qj9
open Nat renaming add_assoc->qnF,add_mul->qp5,le_of_eq->qn5,le_of_lt->qrp,le_refl->qhz,le_trans->qi1,lt_of_lt_of_le->qia,min_eq_left->qqc,reduceAdd->qii,reduceSub->qiB,zero_add->qib,zero_le->qix
open Option renaming getD_some->qi0
open Option.some renaming inj->qkH,injEq->qj3
open Prod renaming fst->qma
namespace Go.Proofs.YtidgnkmjgioapaaGreat
section
open Go.RowKit Go.Co
def sqA:qkk->qkk | .seq a _=>a | c=>c
def sqB:qkk->qkk | .seq _ b=>b | c=>c
def inn:qkk->qkk | .block _ c | .loop c | .scope c=>c | c=>c
noncomputable def jP:qkk:=inn (inn (inn (sqB (Tryz.f139.body.getD .skip))))
noncomputable def wR3:qkk:=sqA (sqB (sqB jP))
noncomputable def wR4:qkk:=sqA (sqB (sqB (sqB jP)))
noncomputable def wR9:qkk:=sqA (sqB (sqB (sqB (sqB jP))))
structure I3(t:Nat->qhC)(w0:qhy)(Y:Nat)(yv:qhC)(gm gx:Nat->Int)(l:Array Bool)(a:Act)(w:qhy):Prop where
 hg:w0.grownBy w none
 c6:l[6]?.getD false=true->l[0]?.getD false=true/\l[1]?.getD false=true/\l[3]?.getD false=true/\l[4]?.getD false=true/\l[5]?.getD false=true
 c7:l[7]?.getD false=true->l[6]?.getD false=true
 ac:∃T8 T9 x y z u,a=⟨#[t 0,t 1,t 2,t 3,.pointer (some Y),t 5,t 6,t 7,T8,T9,t 10,t 11,t 12,t 13,t 14,t 15,t 16,t 17,t 18,t 19,t 20,x,y,z,u,t 25,t 26,t 27,t 28,t 29,t 30,t 31,t 32,t 33,t 34,t 35,t 36,t 37,t 38,t 39,t 40,t 41,t 42,t 43,t 44,t 45,t 46,t 47,t 48,t 49,t 50,t 51,t 52,t 53,t 54,t 55,t 56,t 57,t 58,t 59],[]⟩/\(l[0]?.getD false=true->x=yv)/\(l[1]?.getD false=true->y=wts gm)/\(l[2]?.getD false=true->z=yv)/\(l[3]?.getD false=true->u=wts gx) /\
  (l[4]?.getD false=true->∃B1,T8=.pointer (some ⟨B1,0,none⟩)/\w0.heap.size<=B1/\w.heap[B1]?=some (qJ (if l[6]?.getD false then gm else λ_=>0))/\(l[5]?.getD false=true->T9≠T8)) /\
  (l[5]?.getD false=true->∃B2,T9=.pointer (some ⟨B2,0,none⟩)/\w0.heap.size<=B2/\w.heap[B2]?=some (qJ (if l[7]?.getD false then gx else λ_=>0)))
def qfB(lo G:Nat)(t:Nat->qhC)(w:qhy)(R:Act->qhy->Prop)(M:List Par)(b6:Int)(Y:Nat)(yb:Option qj5)(yc:Nat)(h4:t 4=.pointer (some Y))(hP:qn lo G w (.slice yb M.length yc) M)(p5:G<=w.heap.size)(h5:M.length<=5)(e7:w.cell? Y=some (.slice yb M.length yc))(e6:w.cell? ⟨Y,1,none⟩=some (.int .i64 b6))(p6:Y<w.heap.size)(hR:∀o k w' x y z u,w.gb w' none->w'.heap[o]?=some (qJ (pre Par.mn M M.length))->w'.heap[k]?=some (qJ (pre Par.mx M M.length))->o≠k->w.heap.size<=o->w.heap.size<=k ->R ⟨#[t 0,t 1,t 2,t 3,.pointer (some Y),t 5,t 6,t 7,.pointer (some ⟨o,0,none⟩),.pointer (some ⟨k,0,none⟩),t 10,t 11,t 12,t 13,t 14,t 15,t 16,t 17,t 18,t 19,t 20,x,y,z,u,t 25,t 26,t 27,t 28,t 29,t 30,t 31,t 32,t 33,t 34,t 35,t 36,t 37,t 38,t 39,t 40,t 41,t 42,t 43,t 44,t 45,t 46,t 47,t 48,t 49,t 50,t 51,t 52,t 53,t 54,t 55,t 56,t 57,t 58,t 59],[]⟩ w') :wR3.wp Ya (yB R) ⟨#[t 0,t 1,t 2,t 3,t 4,t 5,t 6,t 7,t 8,t 9,t 10,t 11,t 12,t 13,t 14,t 15,t 16,t 17,t 18,t 19,t 20,t 21,t 22,t 23,t 24,t 25,t 26,t 27,t 28,t 29,t 30,t 31,t 32,t 33,t 34,t 35,t 36,t 37,t 38,t 39,t 40,t 41,t 42,t 43,t 44,t 45,t 46,t 47,t 48,t 49,t 50,t 51,t 52,t 53,t 54,t 55,t 56,t 57,t 58,t 59],[]⟩ w:=by
 have⟨HR,HP⟩:=qF hR hP;have SC:=qhw (qie e7 e6);clear hR hP e7 e6;rw[h4];clear h4;simp only[wR3,jP,qmk,qi0,sqA,sqB,inn];obtain⟨T,c9⟩:∃T,T=pre Par.mn M M.length:=⟨_,rfl⟩;obtain⟨gx,c8⟩:∃gx,gx=pre Par.mx M M.length:=⟨_,rfl⟩;rw[<- c9,<- c8] at HR;have⟨l9,l8⟩:=qF c9 c8;clear c9 c8;refine q0o (by kernel_rfl) (I3 t w Y (.agg #[.slice yb M.length yc,b6]) T gx) ?_ ?_ ?_
 ·exact⟨q9 _ _,by simp,by simp,t 8,t 9,t 21,t 22,t 23,t 24,rfl,by simp,by simp,by simp,by simp,by simp,by simp⟩
 ·intro l a V i I hI G;have c3:=(zy G).1;have L:l.size=8:=I;have c:∀i j,i<8->(l.setIfInBounds i true)[j]?.getD false=if i=j then true else l[j]?.getD false:=λi j h=>Z1 l i j (by omega);have d:=J8 G;obtain⟨hg,C,B,T8,T9,x,y,z,u,rfl,A,s,v,r,q,p⟩:=hI;have HG:=qhw hg;have s0:=hg.cl SC.1;have s1:=hg.cl SC.2;have e9:=qhw (HP.kept hg);have e5:=hg.size;clear hg;have c3:i=0\/i=1\/i=2\/i=3\/i=4\/i=5\/i=6\/i=7:=by
   have:i<8:=c3;omega
  rcases c3 with rfl | rfl | rfl | rfl | rfl | rfl | rfl | rfl
  ·refine zE rfl ?_;have H:=qhw (qie C (qie B (qie s (qie v (qie r (qie q p))))));have⟨W,n⟩:=qF d c;clear A s v r q p C B G d c I L;go_wp2;have⟨C,B,s,v,r,q,p⟩:=H.out;have c:=n.out;have F:l[6]?.getD false=false:=by
    cases h:l[6]?.getD false with
    | false=>rfl
    | true=>have:=(C h).1;rw[W] at this;cases this
   have Q:l[7]?.getD false=false:=by
    cases h:l[7]?.getD false with
    | false=>rfl
    | true=>rw[B h] at F;cases F
   exact⟨HG,by simp[c,F],by simp[c,Q],T8,T9,_,y,z,u,rfl,λ_=>rfl,by simpa[c] using s,by simpa[c] using v,by simpa[c] using r,by simpa[c] using q,by simpa[c] using p⟩
  ·have b:=zx G rfl;simp[qj8] at b;have O:l[0]?.getD false=true:=by(repeat(first | exact b | exact b.1 | replace b:=b.2))
   obtain rfl:=A O;clear b;refine zE rfl ?_;have D0:=qhw O;clear O;have H:=qhw (qie C (qie B (qie s (qie v (qie r (qie q p))))));have⟨W,n⟩:=qF d c;clear A s v r q p C B G d c I L;go_wp2_with (go_at_call 93;refine(xf lo G _ M b6 _ ⟨_,rfl,e9⟩ (by omega) h5).mono ?_;rintro e w5 ⟨rfl,X⟩;have P:=qhw X;clear X);have c:=n.out;have F:l[6]?.getD false=false:=by
    cases h:l[6]?.getD false with
    | false=>rfl
    | true=>have:=H.out.1 h;simp[W.out] at this
   have Q:l[7]?.getD false=false:=by
    cases h:l[7]?.getD false with
    | false=>rfl
    | true=>rw[H.2.1 h] at F;cases F
   have⟨C,B,s,v,r,q,p⟩:=H.out;exact⟨HG.t P,by simp[c,F],by simp[c,Q],T8,T9,_,_,z,u,rfl,λ_=>rfl,λ_=>by rw[l9],by simpa[c] using v,by simpa[c] using r,by intro h;have⟨o,e,hb,S,hn⟩:=q (by simpa[c] using h);exact⟨o,e,hb,by simpa[c] using bk P S,by simpa[c] using hn⟩,by intro h;have⟨k,e,hb,S⟩:=p (by simpa[c] using h);exact⟨k,e,hb,by simpa[c] using bk P S⟩⟩
  ·refine zE rfl ?_;have H:=qhw (qie C (qie B (qie A (qie s (qie v (qie r (qie q p)))))));have⟨W,n⟩:=qF d c;clear A s v r q p C B G d c I L;go_wp2;have c:=n.out;have⟨C,B,A,s,v,r,q,p⟩:=H.out;exact⟨HG,by simpa[c] using C,by simpa[c] using B,T8,T9,x,y,_,u,rfl,by simpa[c] using A,by simpa[c] using s,λ_=>rfl,by simpa[c] using r,by simpa[c] using q,by simpa[c] using p⟩
  ·have b:=zx G rfl;simp[qj8] at b;have d2:l[2]?.getD false=true:=by(repeat(first | exact b | exact b.1 | replace b:=b.2))
   obtain rfl:=v d2;clear b;refine zE rfl ?_;have D2:=qhw d2;clear d2;have H:=qhw (qie C (qie B (qie A (qie s (qie r (qie q p))))));have⟨W,n⟩:=qF d c;clear A s v r q p C B G d c I L;go_wp2_with (go_at_call 92;refine(xa lo G _ M b6 _ ⟨_,rfl,e9⟩ (by omega) h5).mono ?_;rintro e w5 ⟨rfl,X⟩;have P:=qhw X;clear X);have c:=n.out;have F:l[6]?.getD false=false:=by
    cases h:l[6]?.getD false with
    | false=>rfl
    | true=>have:=H.out.1 h;simp[W.out] at this
   have Q:l[7]?.getD false=false:=by
    cases h:l[7]?.getD false with
    | false=>rfl
    | true=>rw[H.2.1 h] at F;cases F
   have⟨C,B,A,s,r,q,p⟩:=H.out;exact⟨HG.t P,by simp[c,F],by simp[c,Q],T8,T9,x,y,_,_,rfl,by simpa[c] using A,by simpa[c] using s,λ_=>rfl,λ_=>by rw[l8],by intro h;have⟨o,e,hb,S,hn⟩:=q (by simpa[c] using h);exact⟨o,e,hb,by simpa[c] using bk P S,by simpa[c] using hn⟩,by intro h;have⟨k,e,hb,S⟩:=p (by simpa[c] using h);exact⟨k,e,hb,by simpa[c] using bk P S⟩⟩
  ·refine zE rfl ?_;have H:=qhw (qie C (qie B (qie A (qie s (qie v (qie r (qie q p)))))));have⟨W,n⟩:=qF d c;clear A s v r q p C B G d c I L;go_wp2;have c:=n.out;have F:l[6]?.getD false=false:=by
    cases h:l[6]?.getD false with
    | false=>rfl
    | true=>have:=H.out.1 h;simp[W.out] at this
   have Q:l[7]?.getD false=false:=by
    cases h:l[7]?.getD false with
    | false=>rfl
    | true=>rw[H.2.1 h] at F;cases F
   have⟨C,B,A,s,v,r,q,p⟩:=H.out;refine⟨HG.t (qhx _ _ none),by simp[c,F],by simp[c,Q],_,T9,x,y,z,u,rfl,by simpa[c] using A,by simpa[c] using s,by simpa[c] using v,by simpa[c] using r,λ_=>⟨V.heap.size,rfl,e5,?_,λh=>?_⟩,by intro h;have⟨k,e,hb,S⟩:=p (by simpa[c] using h);exact⟨k,e,hb,by simpa[c] using qp S⟩⟩
   ·rw[show(l.setIfInBounds 4 true)[6]?.getD false=false by simp[c,F]];exact qhH V (qJ λ_=>0)
   ·have⟨k,e2,_,S⟩:=p (by simpa[c] using h);have:=(qhB.1 S).1;rw[e2];intro e;simp at e;try omega
  ·refine zE rfl ?_;have H:=qhw (qie C (qie B (qie A (qie s (qie v (qie r (qie q p)))))));have⟨W,n⟩:=qF d c;clear A s v r q p C B G d c I L;go_wp2;have c:=n.out;have F:l[6]?.getD false=false:=by
    cases h:l[6]?.getD false with
    | false=>rfl
    | true=>have:=H.out.1 h;simp[W.out] at this
   have Q:l[7]?.getD false=false:=by
    cases h:l[7]?.getD false with
    | false=>rfl
    | true=>rw[H.2.1 h] at F;cases F
   have⟨C,B,A,s,v,r,q,p⟩:=H.out;refine⟨HG.t (qhx _ _ none),by simp[c,F],by simp[c,Q],T8,_,x,y,z,u,rfl,by simpa[c] using A,by simpa[c] using s,by simpa[c] using v,by simpa[c] using r,λh=>?_,λ_=>⟨V.heap.size,rfl,e5,?_⟩⟩
   ·have⟨o,e,hb,S,hn⟩:=q (by simpa[c] using h);refine⟨o,e,hb,by simpa[c] using qp S,λ_=>?_⟩;have:=(qhB.1 S).1;rw[e];intro e;simp at e;try omega
   ·rw[show(l.setIfInBounds 5 true)[7]?.getD false=false by simp[c,Q]];exact qhH V (qJ λ_=>0)
  ·have b:=zx G rfl;simp[qj8] at b;have O:l[0]?.getD false=true:=by(repeat(first | exact b | exact b.1 | replace b:=b.2))
   have d1:l[1]?.getD false=true:=by(repeat(first | exact b | exact b.1 | replace b:=b.2))
   have d3:l[3]?.getD false=true:=by(repeat(first | exact b | exact b.1 | replace b:=b.2))
   have d4:l[4]?.getD false=true:=by(repeat(first | exact b | exact b.1 | replace b:=b.2))
   have U:l[5]?.getD false=true:=by(repeat(first | exact b | exact b.1 | replace b:=b.2))
   have D:=qhw (qie O (qie d1 (qie d3 (qie d4 U))));obtain⟨o,rfl,a6,g,N⟩:=q d4;obtain⟨k,rfl,Z,f⟩:=p U;obtain rfl:=s d1;obtain rfl:=r d3;obtain rfl:=A O;have N:k≠o:=λe=>N U (by rw[e]);have Q:l[7]?.getD false=false:=by
    cases h:l[7]?.getD false with
    | false=>rfl
    | true=>rw[B h] at d;cases d
   rw[d] at g;rw[Q] at f;have N7:=qhw Q;clear Q;simp only[qiC,if_true,if_false,reduceIte] at g f;have⟨d8,d7⟩:=qF g f;have a0:=qm g (show 0<5 by omega);have a1:=qm g (show 1<5 by omega);have a2:=qm g (show 2<5 by omega);have a3:=qm g (show 3<5 by omega);have a4:=qm g (show 4<5 by omega);have fz:=jr g;have p4:=(qhB.1 g).1;refine zE rfl ?_;have⟨W,K2,n⟩:=qY d v c;clear g f b O d1 d3 d4 U A s v r q p C B G d c I L;unfold wts;go_wp2;have c:=n.out;have hW:(((((V.setCell ⟨o,0,none⟩ (.int .i64 (T 0))).setCell ⟨o,1,none⟩ (.int .i64 (T 1))).setCell ⟨o,2,none⟩ (.int .i64 (T 2))).setCell ⟨o,3,none⟩ (.int .i64 (T 3))).setCell ⟨o,4,none⟩ (.int .i64 (T 4))).heap[o]?=some (qJ T):=by
    rw[qg (qg (qg (qg (qg d8))))];rfl
   have hG:V.gb (((((V.setCell ⟨o,0,none⟩ (.int .i64 (T 0))).setCell ⟨o,1,none⟩ (.int .i64 (T 1))).setCell ⟨o,2,none⟩ (.int .i64 (T 2))).setCell ⟨o,3,none⟩ (.int .i64 (T 3))).setCell ⟨o,4,none⟩ (.int .i64 (T 4))) (some o) :=
    ((((qf _ _ _ _).t (qf _ _ _ _)).t (qf _ _ _ _)).t (qf _ _ _ _)).t (qf _ _ _ _)
   refine⟨HG.andThen (row':=some o) hG (by rintro j e;cases e;exact .inl (by omega)),?_,?_,_,_,_,_,_,_,rfl,λ_=>rfl,λ_=>rfl,?_,λ_=>rfl,λ_=>⟨o,rfl,a6,?_,λ_=>by intro e;simp at e;try omega⟩,λ_=>⟨k,rfl,Z,?_⟩⟩
   ·intro _;have⟨O,d1,d3,d4,U⟩:=D.out;simp[c,O,d1,d3,d4,U]
   ·intro h;rw[c 6 7 (by omega)] at h;simp[N7.out] at h
   ·simpa[c] using K2.out
   ·rw[show(l.setIfInBounds 6 true)[6]?.getD false=true by simp[c]];exact hW
   ·rw[show(l.setIfInBounds 6 true)[7]?.getD false=false by simp[c,N7.out]];exact blk hG (by simp;omega) d7
  ·have b:=zx G rfl;simp[qj8] at b;have O:l[0]?.getD false=true:=by(repeat(first | exact b | exact b.1 | replace b:=b.2))
   have d1:l[1]?.getD false=true:=by(repeat(first | exact b | exact b.1 | replace b:=b.2))
   have d3:l[3]?.getD false=true:=by(repeat(first | exact b | exact b.1 | replace b:=b.2))
   have d4:l[4]?.getD false=true:=by(repeat(first | exact b | exact b.1 | replace b:=b.2))
   have U:l[5]?.getD false=true:=by(repeat(first | exact b | exact b.1 | replace b:=b.2))
   have D:=qhw (qie O (qie d1 (qie d3 (qie d4 U))));have d6:l[6]?.getD false=true:=by(repeat(first | exact b | exact b.1 | replace b:=b.2))
   have D6:=qhw d6;obtain⟨o,rfl,a6,g,N⟩:=q d4;obtain⟨k,rfl,Z,f⟩:=p U;obtain rfl:=s d1;obtain rfl:=r d3;obtain rfl:=A O;have N:k≠o:=λe=>N U (by rw[e]);rw[d6] at g;rw[d] at f;clear d6;simp only[qiC,if_true,if_false,reduceIte] at g f;have⟨d8,d7⟩:=qF g f;have a0:=qm f (show 0<5 by omega);have a1:=qm f (show 1<5 by omega);have a2:=qm f (show 2<5 by omega);have a3:=qm f (show 3<5 by omega);have a4:=qm f (show 4<5 by omega);have fz:=jr f;have p3:=(qhB.1 f).1;refine zE rfl ?_;have⟨W,K2,n⟩:=qY d v c;clear g f b O d1 d3 d4 U A s v r q p C B G d c I L;unfold wts;go_wp2;have c:=n.out;have hW:(((((V.setCell ⟨k,0,none⟩ (.int .i64 (gx 0))).setCell ⟨k,1,none⟩ (.int .i64 (gx 1))).setCell ⟨k,2,none⟩ (.int .i64 (gx 2))).setCell ⟨k,3,none⟩ (.int .i64 (gx 3))).setCell ⟨k,4,none⟩ (.int .i64 (gx 4))).heap[k]?=some (qJ gx):=by
    rw[qg (qg (qg (qg (qg d7))))];rfl
   have hG:V.gb (((((V.setCell ⟨k,0,none⟩ (.int .i64 (gx 0))).setCell ⟨k,1,none⟩ (.int .i64 (gx 1))).setCell ⟨k,2,none⟩ (.int .i64 (gx 2))).setCell ⟨k,3,none⟩ (.int .i64 (gx 3))).setCell ⟨k,4,none⟩ (.int .i64 (gx 4))) (some k) :=
    ((((qf _ _ _ _).t (qf _ _ _ _)).t (qf _ _ _ _)).t (qf _ _ _ _)).t (qf _ _ _ _)
   refine⟨HG.andThen (row':=some k) hG (by rintro j e;cases e;exact .inl (by omega)),?_,?_,_,_,_,_,_,_,rfl,λ_=>rfl,λ_=>rfl,?_,λ_=>rfl,λ_=>⟨o,rfl,a6,?_,λ_=>by intro e;simp at e;try omega⟩,λ_=>⟨k,rfl,Z,?_⟩⟩
   ·intro _;have⟨O,d1,d3,d4,U⟩:=D.out;simp[c,O,d1,d3,d4,U]
   ·intro _;simp[c,D6.out]
   ·simpa[c] using K2.out
   ·rw[show(l.setIfInBounds 7 true)[6]?.getD false=true by simp[c,D6.out]];exact blk hG (by simp;omega) d8
   ·rw[show(l.setIfInBounds 7 true)[7]?.getD false=true by simp[c]];exact hW
 ·intro l a V I hI hr;obtain⟨hg,C,B,T8,T9,x,y,z,u,rfl,A,s,v,r,q,p⟩:=hI;have q0:=zY hr I (i:=0) rfl (by simp[qj8]);have q1:=zY hr I (i:=1) rfl (by simp[qj8,q0]);have q2:=zY hr I (i:=2) rfl (by simp[qj8]);have q3:=zY hr I (i:=3) rfl (by simp[qj8,q1,q2]);have q4:=zY hr I (i:=4) rfl (by simp[qj8]);have q5:=zY hr I (i:=5) rfl (by simp[qj8]);have q6:=zY hr I (i:=6) rfl (by simp[qj8,q0,q1,q2,q3,q4,q5]);have q7:=zY hr I (i:=7) rfl (by simp[qj8,q0,q1,q2,q3,q4,q5,q6]);obtain⟨o,rfl,a6,g,N⟩:=q q4;obtain⟨k,rfl,Z,f⟩:=p q5;rw[q6] at g;rw[q7] at f;exact HR o k V x y z u hg (by simpa using g) (by simpa using f) (λe=>N q5 (by rw[e])) a6 Z
end
section
open Go Go.RowKit Go.Co
noncomputable def cB0:qkk:=inn (inn (sqB (sqA (sqB (sqB (Tryz.f137.body.getD .skip))))))
noncomputable def cB1:qkk:=inn (sqA (sqB (sqB cB0)))
noncomputable def cL2:qkk:=sqB (sqA (sqB (sqB (sqB cB1))))
noncomputable def cB3:qkk:=inn (sqA (sqB (sqB (inn (inn cL2)))))
noncomputable def cIn:qkk:=sqB (sqB cB3)
def Ku(g:Nat->Int)(n:Nat)(v:Int):Nat->Int:=λd=>if d=n then v else g d
def J3(g:Nat->Int):List qhC:=[.int .i64 (g 0),.int .i64 (g 1),.int .i64 (g 2),.int .i64 (g 3),.int .i64 (g 4)]
def j8(L:List (Nat->Int)):List qhC:=L.flatMap J3
def vu(g:Nat->Int)(n:Nat)(a:Int)(k:Nat):List (Nat->Int):=(qiz k).map λm:Nat=>Ku g n (a+(m:Int))
def q6x(g:Nat->Int)(n:Nat)(a:Int)(k:Nat):vu g n a (k+1)=vu g n a k++[Ku g n (a+k)]:=by
 simp[vu,qm5]
def q9a(g:Nat->Int)(n:Nat)(a:Int)(k:Nat):(vu g n a k).length=k:=by simp[vu]
def q71(L:List (Nat->Int))(g:Nat->Int):j8 (L++[g])=j8 L++J3 g:=by simp[j8]
def qbp(g:Nat->Int):zq (J3 g):=by
 intro v a;simp only[J3,qjB,qk5,or_false] at a;rcases a with rfl | rfl | rfl | rfl | rfl<;>exact⟨_,_,rfl⟩
def Tp.und152:Ya.underlying 152=some (.slice 101):=by rw[Tp.und];exact Tryz.underlying152
def Tp.info101p:(Ya.info? 101).map (λi=>(i.zero,i.size,i.bytes))=some (some (.agg #[.int .i64 0,.int .i64 0,.int .i64 0,.int .i64 0,.int .i64 0]),5,40):=by kernel_rfl
def q8F(g:Nat->Int)(n:Nat)(a b:Int):(λd=>if d=n then b else Ku g n a d)=Ku g n b:=by
 funext d
 unfold Ku;split<;>rfl
def gAt(g:Nat->Int)(n:Nat)(a:Int)(m:Nat):Nat->Int:=if m=0 then g else Ku g n (a+(m - 1:Int))
def qed(g:Nat->Int)(n:Nat)(a:Int)(m:Nat):(λd=>if d=n then a+(m:Int) else gAt g n a m d)=Ku g n (a+m):=by
 unfold gAt;split
 ·rfl
 ·exact q8F _ _ _ _
def qce(g:Nat->Int)(n:Nat)(a:Int)(m:Nat):gAt g n a (m+1)=Ku g n (a+m):=by
 unfold gAt;simp
def qc7(t:Nat->qhC)(c w:qhy)(R:Act->qhy->Prop)(n S a k:Nat)(h mx:Int)(g:Nat->Int)(L:List (Nat->Int))(nv:qhC)(h7:t 7=.int .i64 n)(hn:n<5)(h8:t 8=nv)(h9:t 9=.pointer (some S))(s:c.heap[S]?=some (.cells #[h,mx] 26 (0,0)))(G:t 11=.pointer (some a))(hW:w.heap[a]?=some (qJ g))(e8:c.heap.size<=a)(F:t 39=.int .i64 k)(D:t 40=.int .i64 0)(hg:c.gb w none)(q:w.ownsRow c.heap.size 101 5 nv L.length (j8 L))(hI:∀b,nv.ownBlock=some b->zr w b/\b≠a)(p5:0<=h/\h<=1000)(hk:k<=2000)(hL:L.length+k<=900000)(hR:∀(T b9 b8 b7 b6 b0 a9 a8 a7 a6 Z Y X W V U:qhC) w',c.gb w' none->w'.ownsRow c.heap.size 101 5 T (L.length+k) (j8 (L++vu g n h k))->(∀b,T.ownBlock=some b->zr w' b) ->R ⟨#[t 0,t 1,t 2,t 3,t 4,t 5,t 6,.int .i64 n,T,.pointer (some S),t 10,.pointer (some a),b9,t 13,t 14,t 15,t 16,t 17,t 18,t 19,t 20,t 21,t 22,t 23,t 24,t 25,t 26,t 27,t 28,t 29,t 30,t 31,t 32,t 33,t 34,t 35,t 36,t 37,t 38,.int .i64 k,b8,b7,b6,b0,a9,a8,a7,a6,Z,Y,X,W,V,U,t 54,t 55,t 56,t 57],[]⟩ w') :(inn cIn).wp Ya (qmy 4 (yB R)) ⟨#[t 0,t 1,t 2,t 3,t 4,t 5,t 6,t 7,t 8,t 9,t 10,t 11,t 12,t 13,t 14,t 15,t 16,t 17,t 18,t 19,t 20,t 21,t 22,t 23,t 24,t 25,t 26,t 27,t 28,t 29,t 30,t 31,t 32,t 33,t 34,t 35,t 36,t 37,t 38,t 39,t 40,t 41,t 42,t 43,t 44,t 45,t 46,t 47,t 48,t 49,t 50,t 51,t 52,t 53,t 54,t 55,t 56,t 57],[]⟩ w:=by
 have⟨i0,e6,e4,d9,d8⟩:=qk1 Tp.info101p;have⟨HR,HO,HW,HG,HN,HI⟩:=KX hR s hW hg q hI;have p9:S<c.heap.size:=(qhB.1 s).1;clear hR s hW hg q hI;rw[h7,h8,h9,G,F,D];clear h7 h8 h9 G F D;simp only[cIn,cB3,cL2,cB1,cB0,qqt,qi0,sqA,sqB,inn];go_wp2;go_loopw [8,40] (λov iv wr=>∃m:Nat,iv=.int .i64 m/\m<=k/\c.gb wr none/\wr.heap[a]?=some (qJ (gAt g n h m))/\wr.ownsRow c.heap.size 101 5 ov (L.length+m) (j8 (L++vu g n h m))/\∀b,ov.ownBlock=some b->zr wr b/\b≠a) (λ_ iv _=>(k - qj7 iv).toNat)
 case atStart=>exact⟨0,rfl,by omega,HG,HW,by simpa[vu] using HN.out,HI⟩
 case round=>
  obtain⟨m,rfl,hm,P,A,s,hN⟩:=hrel;obtain⟨oa,om,oc,rfl⟩:=zi s;have⟨N,k0,M,z⟩:=zI P A s hN;have o0:=P.cl (q8 HO (o:=0) rfl);have p8:a<wr.heap.size:=(qhB.1 A).1;by_cases p6:m<k
  ·have d1:=qm A hn;have f1:=jr A;have l6:(m:Int)<(k:Int):=by omega
   have p3:(n:Int)<5:=by omega
   clear P A s hN;have k9:IntKind.i64.wrap (h+(m:Int))=h+m:=qiv _ (by omega);go_upto_region 14 with(fail);obtain⟨d,i⟩:∃d,d=wr.setCell ⟨a,n,none⟩ (.int .i64 (h+m)):=⟨_,rfl⟩;have u:d.heap[a]?=some (qJ (Ku g n (h+m))):=by
    rw[i,<- qed];exact Qr k0 hn
   have Q:wr.gb d (some a):=by rw[i];exact qf _ _ _ _
   have q2:c.gb d none:=N.out.andThen Q (by rintro j e;cases e;exact .inl e8);have q3:d.ownsRow c.heap.size 101 5 (.slice oa om oc) (L.length+m) (j8 (L++vu g n h m)):=M.out.kept Q (.inr λe=>by
    have:=(z _ e).2;exact this rfl)
   have q4:∀b,(qiH oa om oc).ownBlock=some b->zr d b/\b≠a:=λb x=>by
    have⟨⟨cs,e,f,h1,h2⟩,h3⟩:=z.out b x;exact⟨⟨cs,e,f,blk Q (by intro e;cases e;exact h3 rfl) h1,h2⟩,h3⟩
   have e5:d.heap.size=wr.heap.size:=by rw[i];simp
   have r0:=qm u (show 0<5 by omega);have r1:=qm u (show 1<5 by omega);have r2:=qm u (show 2<5 by omega);have r3:=qm u (show 3<5 by omega);have r4:=qm u (show 4<5 by omega);rw[<- i];have⟨I,g7,H,y⟩:=zI u q2 q3 q4;have l8:a<d.heap.size:=by omega
   have p4:c.heap.size<=d.heap.size:=q2.size;clear u q2 q3 q4 Q i d1 f1 o0 e5;generalize B:Ku g n (h+(m:Int))=gg at r0 r1 r2 r3 r4 I;go_wp2_with (at_builtin;(refine Zs (by rfl) _ _ _ (by rfl) c.heap.size 101 i0 _ 5 40 Tp.und152 e6 e4 d9 d8 rfl (by omega) (.slice oa om oc) (L.length+m) (j8 (L++vu g n h m)) (by rfl) (by exact H.alloc _) ⟨d.heap.size,0,none⟩ 1 1 (J3 gg) (by rfl) (by rfl) (qjh (cs:=(J3 gg).toArray) (t:=101) (fr:=(0,0)) (qhH d _)) (by simp[J3,qjF]) (by omega) (by unfold qlc;omega) (by omega) (by simp;omega) (d.heap.size+1) (by simp) (λb x=>by have⟨⟨cs,e,f,h1,h2⟩,_⟩:=y.out b x;exact⟨cs,e,f,qp h1,h2⟩) (qbp gg) (by intro v hv;simp[qp3] at hv;exact⟨_,_,hv⟩) ?_);intro gi q5 w5 l p C p7 r;have O:=qhw p;have g8:=qhw l;have k5:=qhw C;have g9:=qhw r;clear p l C r);refine⟨⟨m+1,by simp,by omega,?_,?_,?_,?_⟩,by simp[qj7];omega⟩
   ·exact(g7.t (qhx _ _ none)).andThen O λj e=>.inl (H.lt j e).1
   ·rw[qce,B];exact blk O (λe=>(y a e.symm).2 rfl) (qp I)
   ·rw[q6x,<- qkt,q71,B];exact g8
   ·intro b x;have e7:gi=b:=by simpa[qiF] using x
    subst e7;refine⟨g9,?_⟩;rcases k5 with e | e
    ·exact(y gi e).2
    ·omega
  ·obtain rfl:m=k:=by omega
   clear P A s hN;go_wp2;exact HR _ _ _ _ _ _ _ _ _ _ _ _ _ _ _ _ wr N M λb x=>(z b x).1
def q82(x:Array qhC)(h:x.size=58):∃y0 y1 y2 y3 y4 y5 y6 y7 y8 y9 a9 a8 a7 a6 Z Y X W V U T S R Q P O N M L I H G F D C B A z y w v u s r q p o n l k j i g f d c b a,x=#[y0,y1,y2,y3,y4,y5,y6,y7,y8,y9,a9,a8,a7,a6,Z,Y,X,W,V,U,T,S,R,Q,P,O,N,M,L,I,H,G,F,D,C,B,A,z,y,w,v,u,s,r,q,p,o,n,l,k,j,i,g,f,d,c,b,a]:=by
 have e:=Z2 x;rw[h] at e;exact⟨_,_,_,_,_,_,_,_,_,_,_,_,_,_,_,_,_,_,_,_,_,_,_,_,_,_,_,_,_,_,_,_,_,_,_,_,_,_,_,_,_,_,_,_,_,_,_,_,_,_,_,_,_,_,_,_,_,_,e.t rfl⟩
def qhd(z:Array qhC)(h:z.size=58):z=#[z[0]?.getD qhE,z[1]?.getD qhE,z[2]?.getD qhE,z[3]?.getD qhE,z[4]?.getD qhE,z[5]?.getD qhE,z[6]?.getD qhE,z[7]?.getD qhE,z[8]?.getD qhE,z[9]?.getD qhE,z[10]?.getD qhE,z[11]?.getD qhE,z[12]?.getD qhE,z[13]?.getD qhE,z[14]?.getD qhE,z[15]?.getD qhE,z[16]?.getD qhE,z[17]?.getD qhE,z[18]?.getD qhE,z[19]?.getD qhE,z[20]?.getD qhE,z[21]?.getD qhE,z[22]?.getD qhE,z[23]?.getD qhE,z[24]?.getD qhE,z[25]?.getD qhE,z[26]?.getD qhE,z[27]?.getD qhE,z[28]?.getD qhE,z[29]?.getD qhE,z[30]?.getD qhE,z[31]?.getD qhE,z[32]?.getD qhE,z[33]?.getD qhE,z[34]?.getD qhE,z[35]?.getD qhE,z[36]?.getD qhE,z[37]?.getD qhE,z[38]?.getD qhE,z[39]?.getD qhE,z[40]?.getD qhE,z[41]?.getD qhE,z[42]?.getD qhE,z[43]?.getD qhE,z[44]?.getD qhE,z[45]?.getD qhE,z[46]?.getD qhE,z[47]?.getD qhE,z[48]?.getD qhE,z[49]?.getD qhE,z[50]?.getD qhE,z[51]?.getD qhE,z[52]?.getD qhE,z[53]?.getD qhE,z[54]?.getD qhE,z[55]?.getD qhE,z[56]?.getD qhE,z[57]?.getD qhE]:=by
 obtain⟨y0,y1,y2,y3,y4,y5,y6,y7,y8,y9,a7,a6,Z,Y,X,W,V,U,T,S,R,Q,P,O,N,M,L,I,H,G,F,D,C,B,A,y,x,w,v,u,t,s,r,q,p,o,n,l,k,j,i,g,f,e,d,c,b,a,rfl⟩:=q82 z h;rfl
def je:List Nat:=[8,12,40,41,42,43,44,45,46,47,48,49,50,51,52,53]
def qc6(z:Array qhC)(hz:z.size=58)(a w:qhy)(R:Act->qhy->Prop)(n u e k:Nat)(i D:Int)(g:Nat->Int)(L:List (Nat->Int))(h:qhC)(h7:z[7]?=some (.int .i64 n))(s:n<5)(h8:z[8]?=some h)(h9:z[9]?=some (.pointer (some u)))(hO:a.heap[u]?=some (.cells #[i,D] 26 (0,0)))(B:z[11]?=some (.pointer (some e)))(hW:w.heap[e]?=some (qJ g))(x:a.heap.size<=e)(A:z[39]?=some (.int .i64 k))(y:z[40]?=some (.int .i64 0))(hg:a.gb w none)(o:w.ownsRow a.heap.size 101 5 h L.length (j8 L))(hI:∀b,h.ownBlock=some b->zr w b/\b≠e)(v:0<=i/\i<=1000)(hk:k<=2000)(hL:L.length+k<=900000)(hR:∀(r:Array qhC) (f:qhC) d,r.size=58->r[8]?=some f->(∀j,j<58->j∉je->r[j]?=z[j]?)->a.gb d none->d.ownsRow a.heap.size 101 5 f (L.length+k) (j8 (L++vu g n i k))->(∀b,f.ownBlock=some b->zr d b)->R ⟨r,[]⟩ d) :(inn cIn).wp Ya (qmy 4 (yB R)) ⟨z,[]⟩ w:=by
 generalize c:(λk:Nat=>z[k]?.getD qhE)=t;have l:z=#[t 0,t 1,t 2,t 3,t 4,t 5,t 6,t 7,t 8,t 9,t 10,t 11,t 12,t 13,t 14,t 15,t 16,t 17,t 18,t 19,t 20,t 21,t 22,t 23,t 24,t 25,t 26,t 27,t 28,t 29,t 30,t 31,t 32,t 33,t 34,t 35,t 36,t 37,t 38,t 39,t 40,t 41,t 42,t 43,t 44,t 45,t 46,t 47,t 48,t 49,t 50,t 51,t 52,t 53,t 54,t 55,t 56,t 57]:=by subst c;exact qhd z hz
 have G:t 7=.int .i64 n:=by subst c;show z[7]?.getD qhE=_;rw[h7];rfl
 have e8:t 8=h:=by subst c;show z[8]?.getD qhE=_;rw[h8];rfl
 have F:t 9=.pointer (some u):=by subst c;show z[9]?.getD qhE=_;rw[h9];rfl
 have q:t 11=.pointer (some e):=by subst c;show z[11]?.getD qhE=_;rw[B];rfl
 have p:t 39=.int .i64 k:=by subst c;show z[39]?.getD qhE=_;rw[A];rfl
 have C:t 40=.int .i64 0:=by subst c;show z[40]?.getD qhE=_;rw[y];rfl
 rw[l];refine qc7 t a w R n u e k i D g L h G s e8 F hO q hW x p C hg o hI v hk hL ?_;intro f Z Y X W V U T S Q P O N M I H d a1 a2 a3;refine hR _ f d rfl rfl (λj hj s=>?_) a1 a2 a3;rw[l,<- G,<- F,<- q,<- p];unfold je at s;obtain rfl | rfl | rfl | rfl | rfl | rfl | rfl | rfl | rfl | rfl | rfl | rfl | rfl | rfl | rfl | rfl | rfl | rfl | rfl | rfl | rfl | rfl | rfl | rfl | rfl | rfl | rfl | rfl | rfl | rfl | rfl | rfl | rfl | rfl | rfl | rfl | rfl | rfl | rfl | rfl | rfl | rfl | rfl | rfl | rfl | rfl | rfl | rfl | rfl | rfl | rfl | rfl | rfl | rfl | rfl | rfl | rfl | rfl:j=0\/j=1\/j=2\/j=3\/j=4\/j=5\/j=6\/j=7\/j=8\/j=9\/j=10\/j=11\/j=12\/j=13\/j=14\/j=15\/j=16\/j=17\/j=18\/j=19\/j=20\/j=21\/j=22\/j=23\/j=24\/j=25\/j=26\/j=27\/j=28\/j=29\/j=30\/j=31\/j=32\/j=33\/j=34\/j=35\/j=36\/j=37\/j=38\/j=39\/j=40\/j=41\/j=42\/j=43\/j=44\/j=45\/j=46\/j=47\/j=48\/j=49\/j=50\/j=51\/j=52\/j=53\/j=54\/j=55\/j=56\/j=57:=by omega
 all_goals first | rfl | (exact absurd (by simp) s)
def kD(L:List (Nat->Int))(n:Nat)(a:Int)(k:Nat):List (Nat->Int):=L.flatMap λg=>vu g n a k
def vR(L:List (Nat->Int))(n:Nat)(a:Int)(k:Nat):(kD L n a k).length=L.length*k:=by
 unfold kD;induction L with
 | nil=>simp
 | cons g L b=>simp only[qku,qjm,q9a,b,qi3];rw[qp5];omega
def q62(L:List (Nat->Int))(n:Nat)(a:Int)(k:Nat)(i:Nat)(g:Nat->Int)(h:L[i]?=some g):kD (L.take (i+1)) n a k=kD (L.take i) n a k++vu g n a k:=by
 rw[qja,h];simp[kD]
def q2b(L:List (Nat->Int))(i:Nat)(g:Nat->Int)(h:L[i]?=some g)(d:Nat)(c:d<5):(j8 L)[i*5+d]?=some (.int .i64 (g d)):=by
 unfold j8;induction L generalizing i with
 | nil=>simp at h
 | cons b L a=>
  cases i with
  | zero=>
   simp at h;subst h;rw[qku,qiD (by simp[J3];omega)];obtain rfl | rfl | rfl | rfl | rfl:d=0\/d=1\/d=2\/d=3\/d=4:=by omega
   all_goals simp[J3]
  | succ i=>
   simp at h;rw[qku,qkb (by simp[J3];omega)];rw[show(i+1)*5+d - (J3 b).length=i*5+d from by simp[J3];omega];exact a i h
def yt{R:Act->qhy->Prop}{Q:Exit->Act->qhy->Prop}{id:Nat}(h:∀a w,R a w->Q .normal a w):∀e a w,qmy id (yB R) e a w->qmy id Q e a w:=by
 intro e a w b;cases e with
 | normal=>exact h a w b
 | exit i=>
  unfold qmy at b ⊢;by_cases d:i=id
  ·simp only[d,if_true] at b ⊢;exact h a w b
  ·simp only[d,if_false] at b;exact b.elim
 | goto l=>exact b.elim
 | ret=>exact b.elim
 | panic c=>exact b.elim
 | outgrown=>exact b.elim
def xR{c c':qkk}{P:qi4}{Q:Exit->Act->qhy->Prop}{a:Act}{w:qhy}(e:c=c')(h:c'.wp P Q a w):c.wp P Q a w:=e ▸ h
def qfF(z:Array qhC)(hz:z.size=58)(w:qhy)(R:Act->qhy->Prop)(n OB A oc base k:Nat)(p x:Int)(L:List (Nat->Int))(h7:z[7]?=some (.int .i64 n))(hn:n<5)(h8:z[8]?=some (.slice none 0 0))(h9:z[9]?=some (.pointer (some OB)))(D:w.heap[OB]?=some (.cells #[p,x] 26 (0,0)))(d9:z[28]?=some (.slice (some A) L.length oc))(d8:z[29]?=some (.int .i64 L.length))(y:z[30]?=some (.int .i64 0))(C:w.ownsRow base 101 5 (.slice (some A) L.length oc) L.length (j8 L))(p3:0<=p/\p<=x/\x<=1000)(hk:(k:Int)=x - p+1)(hL:L.length*k<=900000)(hR:∀(l:Array qhC) (s:qhC) N,l.size=58->l[8]?=some s->(∀j,j<58->j<8\/(8<j/\j<11)\/(12<j/\j<30)\/54<j->l[j]?=z[j]?)->w.gb N none->N.ownsRow w.heap.size 101 5 s (L.length*k) (j8 (kD L n p k))->(∀b,s.ownBlock=some b->zr N b)->R ⟨l,[]⟩ N) :(inn cL2).wp Ya (qmy 2 (yB R)) ⟨z,[]⟩ w:=by
 obtain⟨y0,y1,y2,y3,y4,y5,y6,y7,y8,y9,n7,B9,B8,n6,n4,n3,n2,m9,m8,m7,m6,m5,m4,m3,l9,l8,l7,l6,B6,B5,B3,A9,A8,A7,A6,A4,A3,A0,z7,z5,z3,z2,z1,z0,x9,x7,x6,x5,x4,x3,x1,x0,w9,w8,w6,l5,l4,k8,rfl⟩:=q82 z hz;simp at h7 h8 h9 d9 d8 y;subst h7 h8 h9 d9 d8 y;have⟨HR,HO,HL⟩:=qY hR D C;have K1:OB<w.heap.size:=(qhB.1 D).1;have K2:L.length<=900000:=qi1 (Nat.le_mul_of_pos_right _ (by omega)) hL;clear hR D C hz;simp only[cL2,cB1,cB0,qqt,qi0,sqA,sqB,inn];go_wp2;go_loopw [8,30] (λov iv wr=>∃i:Nat,iv=.int .i64 i/\i<=L.length/\w.gb wr none/\wr.ownsRow w.heap.size 101 5 ov (i*k) (j8 (kD (L.take i) n p k))/\∀b,ov.ownBlock=some b->zr wr b) (λ_ iv _=>(L.length - qj7 iv).toNat)
 case atStart=>exact⟨0,rfl,by omega,qi2 _ _,by simpa[kD,j8] using qjE w w.heap.size 101 5,λb hb=>by simp[qiF] at hb⟩
 case round=>
  obtain⟨i,rfl,hi,G,D,hN⟩:=hrel;obtain⟨P,O,q,rfl⟩:=zi D;have⟨g5,I,e9⟩:=qY G D hN;have H7:=G.size;by_cases d7:i<L.length
  ·obtain⟨g,hg⟩:∃g,L[i]?=some g:=⟨_,qhG d7⟩;have hA:=(HL.lt A rfl).2;have M:∀d,d<5->wr.cell? ⟨A,i*5+d,none⟩=some (.int .i64 (g d)):=λd hd=>by
    have B:=HL.out.cellAt (i*5+d) (by omega);rw[q2b L i g hg d hd] at B;exact G.cl B
   have c0:wr.cell? ⟨A,i*5,none⟩=some (.int .i64 (g 0)):=M 0 (by omega);have c1:=M 1 (by omega);have c2:=M 2 (by omega);have c3:=M 3 (by omega);have c4:=M 4 (by omega);have o0:=G.cl (q8 HO (o:=0) rfl);have o1:=G.cl (q8 HO (o:=1) rfl);have t5:(i:Int)<(L.length:Int):=by omega
   have H6:IntKind.i64.wrap (x - p)=x - p:=qiv _ (by omega);have H5:IntKind.i64.wrap (x - p+1)=x - p+1:=qiv _ (by omega);have q7:=qhw hg;clear G D hN M hg;go_upto_region 10 with(fail);obtain⟨H,F⟩:∃H,H=wr.heap.size:=⟨_,rfl⟩;obtain⟨v,h⟩:∃v,v=wr.alloc (qJ g):=⟨_,rfl⟩;have q1:v.heap[H]?=some (qJ g):=by rw[h,F];exact qhH wr _
   have g1:wr.gb v none:=by rw[h];exact qhx _ _ none
   have q2:w.gb v none:=g5.out.t g1;have q3:v.ownsRow w.heap.size 101 5 (.slice P O q) (i*k) (j8 (kD (L.take i) n p k)):=by rw[h];exact I.alloc _
   have q4:∀b,(qiH P O q).ownBlock=some b->zr v b/\b≠H:=λb hb=>by
    have⟨cs,e,f,B,h2⟩:=e9.out b hb;exact⟨⟨cs,e,f,by rw[h];exact qp B,h2⟩,by have:=(I.lt b hb).2;omega⟩
   have p0:=g1.cl o0;have p1:=g1.cl o1;rw[<- F];rw[show wr.alloc (.cells #[.int .i64 (g 0),.int .i64 (g 1),.int .i64 (g 2),.int .i64 (g 3),.int .i64 (g 4)] 101)=v from h.symm];have⟨q5,q0,p9,p8⟩:=zI q1 q2 q3 q4;have p6:w.heap.size<=H:=by omega
   clear q1 q2 q3 q4 g1 h F c0 c1 c2 c3 c4 o0 o1;go_wp2;refine qop (yt (R:=λa u=>∃(l:Array qhC) (s:qhC),a=⟨l,[]⟩/\l.size=58/\l[8]?=some s/\(∀j,j<58->j∉je->l[j]?=(#[y0,y1,y2,y3,y4,y5,y6,.int .i64 n,.slice P O q,.pointer (some OB),n7,.pointer (some H),qhE,n6,n4,n3,n2,m9,m8,m7,m6,m5,m4,m3,l9,l8,l7,l6,.slice (some A) L.length oc,.int .i64 L.length,.int .i64 i]:Array qhC)[j]?\/30<j)/\(l[55]?=some l5/\l[56]?=some l4/\l[57]?=some k8)/\w.gb u none/\u.ownsRow w.heap.size 101 5 s ((i+1)*k) (j8 (kD (L.take (i+1)) n p k))/\∀b,s.ownBlock=some b->zr u b) ?_) ?_;rotate_left
   ·refine xR (c':=inn cIn) (by simp only[cIn,cB3,cL2,cB1,cB0,qqt,qi0,sqA,sqB,inn]) ?_;have r:(kD (L.take i) n p k).length=i*k:=by rw[vR,qkC,qqc (by omega)]
    have p4:i*k+k<=900000:=by
     have B:(i+1)*k<=L.length*k:=Nat.mul_le_mul_right _ d7;rw[qp5] at B;omega
    refine qc6 _ rfl w v _ n OB H k p x g (kD (L.take i) n p k) (.slice P O q) rfl hn rfl rfl HO rfl q5 p6 (by rw[hk];rfl) rfl q0 (by rw[r];exact p9) p8 ⟨p3.1,by omega⟩ (by omega) (by rw[r];exact p4) ?_;intro l s N b1 b2 b3 b4 b5 b6;refine⟨l,s,rfl,b1,b2,λj hj hn=>?_,⟨(b3 55 (by omega) (by simp[je])).t rfl,(b3 56 (by omega) (by simp[je])).t rfl,(b3 57 (by omega) (by simp[je])).t rfl⟩,b4,?_,b6⟩
    ·by_cases y:30<j
     ·exact .inr y
     ·left;rw[b3 j hj hn];have L0:j≠12:=λe=>hn (by subst e;simp[je]);obtain rfl | rfl | rfl | rfl | rfl | rfl | rfl | rfl | rfl | rfl | rfl | rfl | rfl | rfl | rfl | rfl | rfl | rfl | rfl | rfl | rfl | rfl | rfl | rfl | rfl | rfl | rfl | rfl | rfl | rfl:j=0\/j=1\/j=2\/j=3\/j=4\/j=5\/j=6\/j=7\/j=8\/j=9\/j=10\/j=11\/j=13\/j=14\/j=15\/j=16\/j=17\/j=18\/j=19\/j=20\/j=21\/j=22\/j=23\/j=24\/j=25\/j=26\/j=27\/j=28\/j=29\/j=30:=by omega
      all_goals rfl
    ·rw[r] at b5;rw[q62 L n p k i g q7,qp5,Nat.one_mul];exact b5
   ·rintro a u ⟨l,s,rfl,d6,e8,c,⟨e6,e5,e4⟩,f1,f2,f3⟩;obtain⟨v0,v1,v2,v3,v4,v5,v6,v7,v8,v9,H1,H0,G9,G8,G7,G6,G5,G4,G3,G2,G1,F9,F8,F7,F6,F5,F4,F3,F2,F1,E9,E8,E7,E6,E5,E4,E3,E2,E1,E0,D9,D8,D7,D6,D5,D4,D3,D2,D1,D0,C9,C8,C7,C6,C5,C4,C3,C2,rfl⟩:=q82 l d6;simp at e8 e6 e5 e4;subst e8 e6 e5 e4;have k0:=(c 0 (by omega) (by simp[je])).resolve_right (by omega);have k1:=(c 1 (by omega) (by simp[je])).resolve_right (by omega);have k2:=(c 2 (by omega) (by simp[je])).resolve_right (by omega);have k3:=(c 3 (by omega) (by simp[je])).resolve_right (by omega);have k4:=(c 4 (by omega) (by simp[je])).resolve_right (by omega);have k5:=(c 5 (by omega) (by simp[je])).resolve_right (by omega);have k6:=(c 6 (by omega) (by simp[je])).resolve_right (by omega);have k7:=(c 7 (by omega) (by simp[je])).resolve_right (by omega);have k9:=(c 9 (by omega) (by simp[je])).resolve_right (by omega);have d5:=(c 10 (by omega) (by simp[je])).resolve_right (by omega);have c9:=(c 11 (by omega) (by simp[je])).resolve_right (by omega);have c8:=(c 13 (by omega) (by simp[je])).resolve_right (by omega);have b9:=(c 14 (by omega) (by simp[je])).resolve_right (by omega);have b8:=(c 15 (by omega) (by simp[je])).resolve_right (by omega);have b7:=(c 16 (by omega) (by simp[je])).resolve_right (by omega);have b0:=(c 17 (by omega) (by simp[je])).resolve_right (by omega);have a9:=(c 18 (by omega) (by simp[je])).resolve_right (by omega);have a8:=(c 19 (by omega) (by simp[je])).resolve_right (by omega);have a7:=(c 20 (by omega) (by simp[je])).resolve_right (by omega);have a6:=(c 21 (by omega) (by simp[je])).resolve_right (by omega);have Z:=(c 22 (by omega) (by simp[je])).resolve_right (by omega);have Y:=(c 23 (by omega) (by simp[je])).resolve_right (by omega);have X:=(c 24 (by omega) (by simp[je])).resolve_right (by omega);have W:=(c 25 (by omega) (by simp[je])).resolve_right (by omega);have V:=(c 26 (by omega) (by simp[je])).resolve_right (by omega);have U:=(c 27 (by omega) (by simp[je])).resolve_right (by omega);have T:=(c 28 (by omega) (by simp[je])).resolve_right (by omega);have S:=(c 29 (by omega) (by simp[je])).resolve_right (by omega);have Q:=(c 30 (by omega) (by simp[je])).resolve_right (by omega);clear c d6;simp at k0 k1 k2 k3 k4 k5 k6 k7 k9 d5 c9 c8 b9 b8 b7 b0 a9 a8 a7 a6 Z Y X W V U T S Q;subst k0 k1 k2 k3 k4 k5 k6 k7 k9 d5 c9 c8 b9 b8 b7 b0 a9 a8 a7 a6 Z Y X W V U T S Q;have⟨r5,r4,r3⟩:=qY f1 f2 f3;clear f1 f2 f3 p0 p1;have H4:IntKind.i64.wrap ((i:Int)+1)=i+1:=qiv _ (by omega);dsimp only;go_wp2;go_roundw
    case rel=>exact⟨i+1,by simp,by omega,r5,r4,r3⟩
    case measure=>simp[qj7];omega
  ·obtain rfl:i=L.length:=by omega
   clear G D hN;go_wp2;refine HR _ (.slice P O q) wr rfl rfl (λj hj hc=>?_) g5 ?_ e9
   ·obtain rfl | rfl | rfl | rfl | rfl | rfl | rfl | rfl | rfl | rfl | rfl | rfl | rfl | rfl | rfl | rfl | rfl | rfl | rfl | rfl | rfl | rfl | rfl | rfl | rfl | rfl | rfl | rfl | rfl | rfl:j=0\/j=1\/j=2\/j=3\/j=4\/j=5\/j=6\/j=7\/j=9\/j=10\/j=13\/j=14\/j=15\/j=16\/j=17\/j=18\/j=19\/j=20\/j=21\/j=22\/j=23\/j=24\/j=25\/j=26\/j=27\/j=28\/j=29\/j=55\/j=56\/j=57:=by omega
    all_goals rfl
   ·have B:=I.out;rw[qjt] at B;exact B
def kOf(p:Par):Nat:=(p.mx - p.mn+1).toNat
def vA(a:List Par)(L:List (Nat->Int))(x:Int):List (Nat->Int):=match a[x.toNat]? with | some p=>kD L x.toNat p.mn (kOf p) | none=>L
def kr(b:List Par)(a:List Int):List (Nat->Int):=a.foldl (vA b) [λ_=>0]
def qa2(b:List Par)(a:List Int)(i:Nat)(x:Int)(p:Par)(h:a[i]?=some x)(c:b[x.toNat]?=some p):kr b (a.take (i+1))=kD (kr b (a.take i)) x.toNat p.mn (kOf p):=by
 rw[qja,h];simp[kr,qrm,vA,c]
def qa1(lo hi:Nat)(yv vv:qhC)(d:List Par)(g:Int)(c:List Int)(w:qhy)(hY:j4 lo hi w yv d g)(hI:qd lo hi w vv c)(C6:hi<=w.heap.size)(h5:d.length<=5)(hx:∀x∈c,0<=x/\x<d.length)(hp:∀p∈d,0<=p.mn/\p.mn<=p.mx/\p.mx<=1000)(Q:∀j,j<=c.length->(kr d (c.take j)).length<=900000) :qiw Ya 137 #[yv,vv] w λe w'=>∃v,e=.returned v/\w.gb w' none/\w'.ownsRow w.heap.size 101 5 v (kr d c).length (j8 (kr d c))/\∀b,v.ownBlock=some b->zr w' b:=by
 obtain⟨qv,rfl,hP⟩:=hY;obtain⟨yb,S,rfl,B9,-⟩:=hP.cell;obtain⟨base,b7,rfl,C5,-⟩:=hI.cell;obtain⟨A,X⟩:∃A,A=w.heap.size:=⟨_,rfl⟩;obtain⟨k,h⟩:∃k,k=(w.alloc (.cells #[.slice yb d.length S,g] 91)).alloc (qJ λ_=>0):=⟨_,rfl⟩;have z:w.gb k none:=by rw[h];exact(qhx _ _ none).t (qhx _ _ none)
 have W:k.heap[A]?=some (.cells #[.slice yb d.length S,g] 91 (0,0)):=by rw[h,X];exact qp (qhH w _)
 have C3:k.heap.size=A+2:=by rw[h,qi6,qi6,X]
 have M:k.heap[A+1]?=some (qJ λ_=>0):=by
  rw[h];have:=qhH (w.alloc (.cells #[.slice yb d.length S,g] 91)) (qJ λ_=>0);rw[qi6,<- X] at this;exact this
 have U:k.ownsRow A 101 5 (.slice (some (A+1:Nat)) 1 1) 1 (j8 [λ_=>0]):=⟨by simp[j8,J3],.inr ⟨A+1,1,_,rfl,by omega,M,by omega,by unfold qlc;omega,by simp,by simp[j8,J3]⟩⟩;have V:zr k (A+1):=Jg M (by intro v hv;simp at hv;exact⟨_,_,hv⟩);have m4:=qhw (hI.kept z);have l7:=qhw (hP.kept z);have⟨HX,l6,HN,b8,HA,m5,m9,l8⟩:=qca hx hp Q h X z W U;have m3:=qhw V;have C7:hi<=A:=by omega
 clear hI hP hx hp Q h X z W M U V;go_enter Tp.x137,Tryz.ntmps137;go_upto_region 2 with(fail);rw[<- HA];rw[show(w.alloc (.cells #[.slice yb d.length S,g] 91)).alloc (.cells #[.int .i64 0,.int .i64 0,.int .i64 0,.int .i64 0,.int .i64 0] 101)=k from b8.symm];clear b8;go_wp2;go_loopw [5,17] (λov iv wr=>∃j:Nat,iv=.int .i64 j/\j<=c.length/\k.gb wr none/\wr.ownsRow A 101 5 ov (kr d (c.take j)).length (j8 (kr d (c.take j)))/\(∀b,ov.ownBlock=some b->zr wr b)/\0<(kr d (c.take j)).length) (λ_ iv _=>(c.length - qj7 iv).toNat)
 case atStart=>exact⟨0,rfl,by omega,qi2 _ _,by simpa[kr] using l8.out,λb hb=>(by simp[qiF] at hb;subst hb;exact m3),by simp[kr]⟩
 case round=>
  obtain⟨j,rfl,hj,O,hO,Q,q⟩:=hrel;obtain⟨RA,rc,rfl,D2,p9⟩:=hO.form q;have⟨c9,c3,l9⟩:=qY O hO Q;have C2:=O.size;by_cases r:j<c.length
  ·have c8:=m4.out.kept O;have b9:=l7.out.kept O;obtain⟨b1,c1,he,-,hc⟩:=c8.cell;cases he;obtain⟨VB,vo,rfl,q5,q4,q0,C⟩:=hc (by intro e;rw[e] at r;simp at r);have x0:=C j r;obtain⟨x,s⟩:∃x,c[j]?=some x:=⟨_,qhG r⟩;have⟨C0,D⟩:=HX.out x (qih s);rw[s] at x0;simp only[qi0] at x0;obtain⟨n,rfl⟩:∃n:Nat,x=n:=⟨x.toNat,by omega⟩;obtain⟨b2,c2,he,-,hc⟩:=b9.cell;cases he;obtain⟨YB,yo,rfl,D0,C9,C8,T⟩:=hc (by intro e;rw[e] at D;simp at D;omega);obtain⟨p,F,p0,p1,-,-⟩:=T n (by omega);have H:=l6.out p (qih F);have a0:=O.cl (q8 m9 (o:=0) rfl);have p7:(j:Int)<(c.length:Int):=by omega
   have C4:(n:Int)<(d.length:Int):=D;have⟨k7,l5⟩:=qF s F;clear O hO Q hc C T s F c8 b9;go_upto_region 7 with(fail);obtain⟨L,y⟩:∃L,L=kr d (c.take j):=⟨_,rfl⟩;obtain⟨OB,N⟩:∃OB,OB=wr.heap.size:=⟨_,rfl⟩;obtain⟨B,l⟩:∃B,B=wr.alloc (.cells #[p.mn,p.mx] 26):=⟨_,rfl⟩;have g9:n<5:=by omega
   have h8:((kOf p:Nat):Int)=p.mx - p.mn+1:=by unfold kOf;omega
   have I:kr d (c.take (j+1))=kD L n p.mn (kOf p):=by rw[qa2 d c j n p k7 (by simpa using l5.out),<- y];simp
   have k5:L.length*kOf p<=900000:=by have:=HN.out (j+1) r;rw[I,vR] at this;exact this
   have q1:B.heap[OB]?=some (.cells #[p.mn,p.mx] 26 (0,0)):=by rw[l,N];exact qhH wr _
   have q2:wr.gb B none:=by rw[l];exact qhx _ _ none
   have q3:B.ownsRow A 101 5 (.slice (some RA) L.length rc) L.length (j8 L):=by rw[l,y];exact c3.alloc _
   have g8:A<=B.heap.size:=by have:=q2.size;omega
   rw[<- y] at q ⊢;rw[<- N];rw[show wr.alloc (.cells #[p.mn,p.mx] 26)=B from l.symm];have⟨l4,k9,k8,d5⟩:=zI q1 q2 q3 I;clear q1 q2 q3 I l N y x0 p0 p1 a0;go_wp2;refine qop (yt (R:=λa u=>∃(f:Array qhC) (P:qhC),a=⟨f,[]⟩/\f.size=58/\f[8]?=some P/\(f[0]?=some (.agg #[.slice (some ⟨YB,yo,none⟩) d.length S,g])/\f[1]?=some (.slice (some ⟨VB,vo,none⟩) c.length b7)/\f[2]?=some (.pointer (some A))/\f[3]?=some (qhE)/\f[4]?=some (.slice none 0 0)/\f[6]?=some (qhE)/\f[10]?=some (qhE)/\f[13]?=some (.agg #[.int .i64 0,.int .i64 0,.int .i64 0,.int .i64 0,.int .i64 0])/\f[14]?=some (.slice (some (A+1:Nat)) 1 1)/\f[15]?=some (.slice (some ⟨VB,vo,none⟩) c.length b7)/\f[16]?=some (.int .i64 c.length)/\f[17]?=some (.int .i64 j)/\f[57]?=some (qhE))/\k.gb u none/\u.ownsRow A 101 5 P (kr d (c.take (j+1))).length (j8 (kr d (c.take (j+1))))/\∀b,P.ownBlock=some b->zr u b) ?_) ?_;rotate_left
   ·refine xR (c':=inn cL2) (by simp only[cL2,cB1,cB0,qqt,qi0,sqA,sqB,inn]) ?_;refine qfF _ rfl B _ n OB RA rc A (kOf p) p.mn p.mx L rfl g9 rfl rfl l4 rfl rfl rfl k8 ⟨H.1,H.2.1,H.2.2⟩ h8 k5 ?_;intro f P w' b1 b2 i b4 b5 b6;refine⟨f,P,rfl,b1,b2,⟨(i 0 (by omega) (by omega)).t rfl,(i 1 (by omega) (by omega)).t rfl,(i 2 (by omega) (by omega)).t rfl,(i 3 (by omega) (by omega)).t rfl,(i 4 (by omega) (by omega)).t rfl,(i 6 (by omega) (by omega)).t rfl,(i 10 (by omega) (by omega)).t rfl,(i 13 (by omega) (by omega)).t rfl,(i 14 (by omega) (by omega)).t rfl,(i 15 (by omega) (by omega)).t rfl,(i 16 (by omega) (by omega)).t rfl,(i 17 (by omega) (by omega)).t rfl,(i 57 (by omega) (by omega)).t rfl⟩,(c9.t k9).t b4,?_,b6⟩;rw[d5,vR];exact q4p b5 g8
   ·rintro a u ⟨f,P,rfl,g7,e8,⟨e0,e1,e2,e3,e4,e6,b0,a9,a8,a7,a6,Z,Y⟩,f1,f2,f3⟩;have G:0<(kr d (c.take (j+1))).length:=by
     rw[d5,vR];exact Nat.mul_pos q (by omega)
    obtain⟨v0,v1,v2,v3,v4,v5,v6,v7,v8,v9,B6,B5,B4,B3,A9,A8,A7,A6,A4,A3,A0,z7,z5,z4,z3,z2,z1,z0,x9,x7,x6,x5,x4,x3,x2,x1,w9,w8,w6,u9,u8,u7,u6,u5,u0,t9,t8,t7,t6,t5,t4,t3,t2,t1,s9,s8,s7,s6,rfl⟩:=q82 f g7;simp at e8 e0 e1 e2 e3 e4 e6 b0 a9 a8 a7 a6 Z Y;subst e8 e0 e1 e2 e3 e4 e6 b0 a9 a8 a7 a6 Z Y;have⟨m8,m7,m6⟩:=qY f1 f2 f3;clear f1 f2 f3;have C1:IntKind.i64.wrap ((j:Int)+1)=j+1:=qiv _ (by omega);dsimp only;go_wp2;go_roundw
    case rel=>exact⟨j+1,by simp,by omega,m8,m7,m6,G⟩
    case measure=>simp[qj7];omega
  ·obtain rfl:j=c.length:=by omega
   clear O hO Q;go_wp2;go_ret;refine⟨_,rfl,m5.t c9,?_,l9⟩;have h1:=c3.out;rw[<- HA];simpa[qjt] using h1
end
section
open Go Go.RowKit Go.Co
def Tp.info3p:(Ya.info? 3).map (λi=>(i.zero,i.size,i.bytes))=some (some (.int .i64 0),1,8):=by kernel_rfl
def Tp.und29':Ya.underlying 29=some (.slice 3):=by rw[Tp.und];exact qmv
def KU{w:qhy}{base n a:Nat}{v:qhC}{l:List Int}(h:w.ownsRow base 3 1 v n (l.map (qim .i64)))(s:l.length<=1000000)(o:w.heap.size<=a):qd base a w v l:=by
 have j:n=l.length:=by have:=h.1;simpa using this.symm
 subst j;rcases h.2 with⟨rfl,r⟩ | ⟨g,d,c,rfl,q,e,_,_,p,f⟩
 ·have:l=[]:=qjq r;subst this;exact .nil _ _ _
 ·have k:=(qhB.1 e).1;refine⟨_,d,rfl,by omega,λ_=>⟨g,0,c,_,rfl,q,by omega,e,λi a=>?_⟩⟩;have b:(l.map (qim .i64))[i]?=some (.int .i64 (l[i]?.getD 0)):=by simp[qhG a]
  rw[<- f,qn9] at b;split at b
  ·rw[qib];simpa using b
  ·cases b
def jI{w:qhy}{B o j:Nat}{u:qhC}(h:w.cell? ⟨B,o+j,none⟩=some u):w.cell? ((⟨B,o,none⟩:qj5).add j)=some u:=by
 have e:(⟨B,o,none⟩:qj5).add j=⟨B,o+j,none⟩:=by unfold Addr.add;split<;>simp_all
 rw[e];exact h
def q76(w:qhy):(binOp .eql 29 (.slice none 0 0) (.slice none 0 0)).run Ya w=.ok (.bool true) w:=by kernel_rfl
def q3c(w:qhy)(B o n c:Nat):(binOp .eql 29 (.slice (some ⟨B,o,none⟩) n c) (.slice none 0 0)).run Ya w=.ok (.bool false) w:=by kernel_rfl
attribute [local simp] q76 q3c
attribute [local go_sem] q76 q3c
def JW(G z:Nat)(v:qhC)(l:List Int)(w:qhy)(P:qd G z w v l)(M:z<=w.heap.size)(p:l≠[]\/v=.slice none 0 0)(W:l.length<=1000) :qiw Ya 84 #[v] w λe f=>∃y,e=.returned y/\w.gb f none/\qd w.heap.size f.heap.size f y l:=by
 have⟨H,r,k,i,g⟩:=qk1 Tp.info3p;by_cases s:l=[]
 ·subst s;have I:v=.slice none 0 0:=p.resolve_left (λh=>h rfl);subst I;go_enter Tp.x84,qq7;go_wp2;go_ret;exact⟨_,rfl,qi2 _ _,.nil _ _ _⟩
 ·obtain⟨base,t,rfl,L,A⟩:=P;obtain⟨B,o,Q,fr,rfl,Y,X,D,C⟩:=A s;have d:0<l.length:=qm9.2 s;have S:=qhw (show ∀j u,(l.map (qim .i64))[j]?=some u->Q[o+j]?=some u from λj u c=>by
   rw[qjA] at c;cases hj:l[j]? with
   | none=>rw[hj] at c;cases c
   | some x=>
    rw[hj] at c;cases c;have q:=(qic.1 hj).1;have:=C j q;rw[hj] at this;exact this)
  have U:=qhw D;clear A C D;go_enter Tp.x84,qq7;go_wp2_with (at_builtin;(refine qpo _ (by rfl) _ _ _ (by rfl) w.heap.size 3 H _ 1 8 Tp.und29' r k i g rfl (by omega) (.slice (some w.heap.size) 0 0) 0 [] (by rfl) ⟨by simp,.inr ⟨w.heap.size,0,#[],rfl,by omega,qhH w _,by omega,by unfold qlc;omega,by simp,by simp⟩⟩ ⟨B,o,none⟩ l.length t (l.map (qim .i64)) (by rfl) (by simp) (λj u c=>jI (q8 (qp U) (S j u c))) (by intro u c;simp at c;obtain⟨x,_,rfl⟩:=c;rfl) d (by unfold qlc;omega) (by omega) (by simp) (w.heap.size+1) (by simp) ?_);intro Z F V a b O N;have T:=qhw b;have R:=qhw a;clear b a);go_ret;refine⟨_,rfl,(qhx _ _ none).andThen T (λj e=>.inl ?_),KU (n:=0+l.length) (by simpa using R.out) (by omega) (qhz _)⟩;simp[qiF] at e;omega
end
section
open Go.RowKit Go.Co
def J5{w c:qhy}{base a n:Nat}{e:qid}{v:qhC}{b:List qhC}(h:w.ownsRow base e a v n b)(d:w.gb c none):c.ownsRow base e a v n b:=h.kept d (qnB (v.ownBlock=none))
def q2G{w:qhy}{base a n k c:Nat}{e:qid}{b:Option qj5}{d:List qhC}(h:w.ownsRow base e a (.slice b k c) n d):k<=c:=by
 rcases h.2 with⟨h,-⟩ | ⟨g,j,i,h,-,-,f,-⟩
 ·cases h;exact qhz _
 ·cases h;exact f
def Zv(a:List Par)(l:List Int)(x:Int):qK a (l++[x])=qK a l+jz a x:=by simp[qK]
structure HpI(b g Q B0 n i:Nat)(ps:List Par)(lim:Int)(pv:qhC)(ord l:List Int)(ov:qhC)(w0 w wr:qhy):Prop where
 sub:l.Sublist (ord.take i)
 tall:qK ps l<=lim
 t0:0<=qK ps l
 own:wr.ownsRow B0 3 1 ov l.length (l.map (qim .i64))
 tin:qQ wr b (g+i)
 gr:w.grownBy wr (some b)
 gr0:w0.grownBy wr (some b)
 ints:∀j,ov.ownBlock=some j->zr wr j
def qbu{d:List Par}{c:Int}{a l:List Int}{i:Nat}(e:qa8 d.length a)(j:d.length<=5)(h:l.Sublist (a.take i))(g:qK d l<=c):POk d c l:=by
 have b:l.Sublist a:=h.t (qrn _ _);exact⟨λx f=>e.all x (b.subset f),e.nd.sublist b,g,by have:=b.length_le;have:=e.len;omega⟩
def q8q{a:List Par}{m:Nat}{p:Par}(h:a[m]?=some p):jz a (m:Int)=p.tall:=by simp[jz,h]
def qaE{a l:List Int}{i:Nat}(h:l.Sublist (a.take i)):l.Sublist (a.take (i+1)):=h.t (by rw[qja];exact List.sublist_append_left _ _)
def qaD{a l:List Int}{i:Nat}{x:Int}(h:l.Sublist (a.take i))(b:a[i]?=some x):(l++[x]).Sublist (a.take (i+1)):=by
 rw[qja,b];exact h.append (List.Sublist.refl _)
def q6D(b g:Nat)(lo:Nat)(pv:qhC)(a:List Par)(q:Int)(w:qhy)(ht:qQ w b g)(hg:g<90000)(hP:qn lo w.heap.size w pv a)(b0:b<lo)(h5:a.length<=5)(k9:0<=q)(v0:q<=1000)(a6:∀p∈a,0<=p.tall/\p.tall<=100) :qiw Ya 34 #[.pointer (some ⟨b,0,none⟩),.agg #[pv,q]] w λe w'=>∃l v,POk a q l/\e=.returned v/\Tn b (g+11) w w'/\qd w.heap.size w'.heap.size w' v l/\(∀b n c,v=.slice b n c->n<=c)/\∀ad m c,v=.slice (some ad) m c->zr w' ad.block:=by
 have⟨i0,l4,h9,h8,g9⟩:=qk1 Tp.info3p;obtain⟨yb,yc,rfl,t9,-⟩:=hP.cell;obtain⟨Q,hQ⟩:∃Q,Q=w.heap.size:=⟨_,rfl⟩;have v2:b<Q:=by rw[hQ];exact ht.lt
 have⟨HT,HQ,HP,m7⟩:=zI ht hQ hP a6;clear ht hQ hP a6;go_enter Tp.x34,Tryz.ntmps34;go_upto_region 1 with(fail);rw[<- HQ];refine YO (λu=>w.gb u (some b)/\qQ u b g/\u.heap[Q]?=some (.cells #[.slice yb a.length yc,q] 24 (0,0))) ⟨qhx _ _ _,HT.alloc _,by rw[HQ];exact qhH _ _⟩ (λw1 hF=>?_);obtain⟨g1,t1,q1⟩:=hF;have c0:=q8 q1 (o:=0) rfl;have c1:=q8 q1 (o:=1) rfl;have⟨G1,T1,Q1⟩:=qY g1 t1 q1;clear g1 t1 q1;go_wp2_with (go_at_call 72;refine(q9b b g a.length _ T1 (by omega) (by omega)).mono ?_;rintro e I ⟨N,ov,C,rfl,a8,P⟩;have N2:=qhw a8;have I2:=qhw P;have s:=qhw C;obtain⟨ob,oc,eo,-,-⟩:=P.cell;rw[C.len] at eo;subst eo;clear a8 P C);have q2:=blk N2.1 (by simp;omega) Q1;have Q2:=qhw q2;have W:=qhw (G1.t N2.1);have T2:=qhw N2.2;have q0:w.heap.size<=w1.heap.size:=G1.out.size;have q4:=JN Q1;have m6:=qhw (I2.mono (show Q+1<=w1.heap.size by omega) (qhz _));have P2:=qhw (HP.kept W (λR e=>by cases e;exact .inl b0));clear q2 c0 c1 Q1 G1 T1 N2 I2;go_loopw [5,6,8] (λov tv iv wr=>∃(i:Nat) (l:List Int),iv=.int .i64 i/\tv=.int .i64 (qK a l)/\i<=a.length/\HpI b (g+a.length) Q I.heap.size a.length i a q (.slice yb a.length yc) N l ov I w wr) (λ_ _ iv _=>(a.length - qj7 iv).toNat)
 case atStart=>exact⟨0,[],rfl,rfl,by omega,⟨by simp,by simpa[qK] using k9,by simp[qK],qjE _ _ _ _,T2,W,qi2 _ _,λj e=>by cases e⟩⟩
 case round=>
  obtain⟨i,l,rfl,rfl,hi,V⟩:=hrel;obtain⟨z,y,d,rfl⟩:=zi V.own;have f:=qhw V;have O:=V.tall;have k6:=V.t0;have u9:l.length<=5:=by have:=V.sub.length_le;rw[qkC] at this;omega
  clear V;by_cases a9:i<a.length
  ·have q3:(i:Int)<(a.length:Int):=by omega
   have u6:IntKind.i64.wrap ((i:Int)+1)=(i:Int)+1:=qiv _ (by omega);obtain⟨x,hx⟩:∃x,N[i]?=some x:=⟨_,qhG (by rw[s.len];exact a9)⟩;have Y:=s.out.all x (qih hx);obtain⟨m,rfl⟩:=Int.eq_ofNat_of_zero_le Y.1;have hm:m<a.length:=by omega
   have u8:(m:Int)<(a.length:Int):=by omega
   have HX:=qhw hx;clear hx Y;go_wp2_with (fail);refine(q3B b (g+a.length+i) 5 _ f.tin (by omega) (by omega) (by omega)).mono ?_;rintro e w5 ⟨⟨tr,rfl⟩,D,-⟩;have g5:I.gb w5 (some b):=f.out.gr0.t D.1;have⟨T,G5⟩:=qF D g5;have I5:=qhw (λ(j:Nat) (e:(qiH z y d).ownBlock=some j)=>(f.ints j e).kept D.1 (λe2=>by have h1:=(f.own.lt j e).1;have h2:=T2.out.lt;cases e2;omega));have O5:=qhw (f.own.kept D.1 (by
    by_cases e:(qiH z y d).ownBlock=some b
    ·have h1:=(f.own.lt b e).1;have h2:=T2.out.lt;omega
    ·exact .inr e))
   clear D g5;cases tr with
   | true=>
    go_wp2;go_ret;exact⟨l,_,qbu s h5 f.sub O,rfl,⟨f.gr.t T.1,T.2.mono (by omega)⟩,(qd.own O5 (by have:=f.out.sub.length_le;rw[qkC] at this;omega)).mono (by have:=W.out.size;omega) (qhz _),λ_ _ _ e=>(by cases(show qiH z y d=_ from e);exact q2G O5),λad m2 c2 e=>by cases(show qiH z y d=_ from e);exact(f.ints _ rfl).kept T.1 (λe2=>by have h1:=(f.own.lt _ rfl).1;have h2:=T2.out.lt;cases e2;omega)⟩
   | false=>
    have b6:=m6.out.kept G5 (λR e=>by cases e;exact .inl (by omega));obtain⟨t6,t5,eo,-,a7⟩:=b6.cell;injection eo with eo1 eo2 eo3;subst eo1 eo3;clear eo2;obtain⟨OB,oo,rfl,-,-,v8,F⟩:=a7 (by intro e;have:=s.out.len;rw[e] at this;simp at this;omega);have x1:=F i (by rw[s.len];exact a9);rw[HX] at x1;simp only[qi0] at x1;have q5:=blk G5 (by simp;omega) Q2;have p5:=P2.out.kept G5 (λR e=>by cases e;exact .inl b0);obtain⟨s7,s6,ey,-,X⟩:=p5.cell;cases ey;obtain⟨YB,yo,rfl,-,v4,v5,r⟩:=X (by intro e;rw[e] at hm;simp at hm);have⟨p,hp,p0,p1,p2,p3⟩:=r m hm;have u7:=m7.out p (qih hp);have Z:=q8q hp;have d0:=q8 q5 (o:=0) rfl;have d1:=q8 q5 (o:=1) rfl;have⟨U,Q5⟩:=qF Z q5;have k5:IntKind.i64.wrap (qK a l+p.tall)=qK a l+p.tall:=qiv _ (by omega);clear b6 F a7 p5 X r q5 hp Z p0 p1 p2;obtain⟨tl,A⟩:∃tl,tl=qK a l:=⟨_,rfl⟩;rw[<- A] at O k5 k6 ⊢;have H:=qhw A;clear A;by_cases b7:tl+p.tall<=q
    ·go_wp2_with (fail);go_quiet (fail);go_wp2_with (fail);have h:w5.gb (w5.drewN nq) none:=qi _ _ _;generalize w5.drewN nq=w7 at h ⊢;have g7:=G5.out.andThen h (by simp);have e0:=q8 (bk h Q5) (o:=0) rfl;have e1:=h.cl p3;have q7:=bk h Q5;have Q7:=qhw q7;have v7:Q<w7.heap.size:=JN q7;have v6:YB<w7.heap.size:=by have:=h.size;omega
     have I7:=qhw (λ(j:Nat) (e:(qiH z y d).ownBlock=some j)=>(I5 j e).kept h);have O7:=qhw (J5 O5 h);have T7:=qhw (T.2.kept h);have G7:=qhw g7;have GW:=qhw ((f.gr.t T.1).andThen h (by simp));clear h g7 d0 d1 x1 p3 Q5;have I8:=qhw (λ(j:Nat) (e:(qiH z y d).ownBlock=some j)=>(I7 j e).kept (qhx w7 (.cells #[.int .i64 m] 3) none));have N8:=qhw (show zq [qim .i64 m] from λv hv=>⟨_,_,qkv.1 hv⟩);have Z8:=qhw (show zq (qim .i64 0).cells.toList from λv hv=>by simp[qp3] at hv;exact⟨_,_,hv⟩);have l5:some Q≠(qiH z y d).ownBlock:=λe=>by have:=(O7.lt Q e.symm).1;have:=JN Q2;omega
     go_region_law
      (first
       | (refine vQ (by rfl) _ _ _ (by rfl) I.heap.size 3 i0 _ 1 8 Tp.und29' l4 h9 h8 g9 rfl (by omega) (.slice z y d) l.length (l.map (qim .i64)) (by rfl) (by exact O7.alloc _) ⟨w7.heap.size,0,none⟩ 1 1 [.int .i64 m] (by rfl) (by rfl) (qjh (cs:=#[.int .i64 m]) (t:=3) (fr:=(0,0)) (qhH w7 _)) (by simp[qjF]) (by omega) (by unfold qlc;omega) (by omega) (by simp;have:=G7.out.size;omega) (w7.heap.size+1) (by simp) I8 N8 Z8 ?_;intro gg m3 w8 B k v3 v1 L;have m8:=qhw L;clear L;have B8:=blk k l5 (qp Q7);have x3:=q8 B8 (o:=0) rfl;have x2:=k.cell ((qhx w7 (.cells #[.int .i64 m] 3) none).cl e1) (λe=>by have h1:I.heap.size<=YB:=(O7.lt _ e.symm).1;have:=W.out.size;omega);have u5:Q<w8.heap.size:=JN B8;have u0:YB<w8.heap.size:=(by have:=k.size;simp at this;omega);have HG:=qhw k;have HO:=qhw B;clear B8 B))
     all_goals
      have G:∀j,(qiH z y d).ownBlock=some j->I.heap.size<=j:=λj e=>(O7.lt j e).1;have v9:=W.out.size;have HH:(w7.alloc (.cells #[.int .i64 m] 3)).gb w8 (qiH z y d).ownBlock:=⟨HG.os,HG.tape,HG.output,HG.size,HG.block⟩;have S:=qhx w7 (.cells #[.int .i64 m] 3) none;have M:HpI b (g+a.length) Q I.heap.size a.length (i+1) a q (.slice (some ⟨YB,yo,none⟩) a.length yc) N (l++[(m:Int)]) (.slice (some gg) (l.length+1) m3) I w w8 :=
       ⟨qaD f.sub HX,by rw[Zv,U,<- H];exact b7,by rw[Zv,U,<- H];omega,by rw[qjm,qk0];exact HO,(T7.alloc _).kept HH (λj e=>by have:=G j e;have:=T2.out.lt;omega),q6G (GW.andThen S (by simp)) HH (λj e=>by have:=G j e;omega),q6G (G7.andThen S (by simp)) HH (λj e=>G j e),λj e=>by simp[qiF] at e;subst e;exact m8⟩
      have FF:=qhw M;have FT:=qhw (show tl+p.tall=qK a (l++[(m:Int)]) by rw[Zv,U,<- H]);clear M G S;go_wp2;go_roundw
      case rel=>exact⟨i+1,l++[(m:Int)],by simp,by rw[FT],by omega,FF⟩
      case measure=>simp[qj7];omega
    ·go_wp2_with (fail);go_quiet (fail);go_wp2_with (fail);go_roundw
     case rel=>
      exact⟨i+1,l,by simp,by rw[H],by omega,qaE f.sub,f.tall,f.t0,J5 O5 (qi _ _ none),T.2.kept (qi _ _ none),(f.gr.t T.1).t (qi _ _ _),G5.t (qi _ _ _),λj e=>(I5 j e).kept (qi _ _ none)⟩
     case measure=>simp[qj7];omega
  ·obtain rfl:i=a.length:=by omega
   go_wp2;go_ret;exact⟨l,_,qbu s h5 f.sub O,rfl,⟨f.gr,f.tin.mono (by omega)⟩,(qd.own f.own (by have:=f.out.sub.length_le;rw[qkC] at this;omega)).mono (by have:=W.out.size;omega) (qhz _),λ_ _ _ e=>(by cases(show qiH z y d=_ from e);exact q2G f.own),λad m2 c2 e=>by cases(show qiH z y d=_ from e);exact f.ints _ rfl⟩
def q6E(b g:Nat)(i:Nat)(h:qhC)(d:List Par)(a:Int)(w:qhy)(s:qQ w b g)(t:g<90000)(u:qn i w.heap.size w h d)(k:b<i)(r:d.length<=5)(q:0<=a)(o:a<=1000)(j:∀p∈d,0<=p.tall/\p.tall<=100) :qiw Ya 34 #[.pointer (some ⟨b,0,none⟩),.agg #[h,a]] w λe f=>∃l v,POk d a l/\e=.returned v/\Tn b (g+11) w f/\qd w.heap.size f.heap.size f v l/\∀b n c,v=.slice b n c->n<=c :=
 (q6D b g i h d a w s t u k r q o j).mono λ_ _ ⟨l,v,A,z,y,x,r,_⟩=>⟨l,v,A,z,y,x,r⟩
end
section
open Go.RowKit
def q7b(x y:Int):Int:=if x<y then -1 else if y<x then 1 else 0
def QJ:List Int->List Int->Int
 | [],[]=>0
 | [],_::_=>-1
 | _::_,[]=>1
 | x::a,y::b=>if q7b x y≠0 then q7b x y else QJ a b
def qeq(x y:Int)(w:qhy):qiw Ya 157 #[x,y] w λe d=>e=.returned (.int .i64 (q7b x y))/\w=d:=by
 unfold q7b;by_cases c:x<y
 ·rw[if_pos c];go_enter Tp.x157,qr3;go_wp2_with (go_at_call 198;refine(QY _ _).mono ?_;rintro e a ⟨rfl,rfl⟩);go_ret;exact⟨rfl,rfl⟩
 ·rw[if_neg c];by_cases b:y<x
  ·rw[if_pos b];go_enter Tp.x157,qr3;go_wp2_with (go_at_call 198;refine(QY _ _).mono ?_;rintro e a ⟨rfl,rfl⟩);go_ret;exact⟨rfl,rfl⟩
  ·rw[if_neg b];go_enter Tp.x157,qr3;go_wp2_with (go_at_call 198;refine(QY _ _).mono ?_;rintro e a ⟨rfl,rfl⟩);go_ret;exact⟨rfl,rfl⟩
def qa0(a b:List Int)(k:Nat)(x y:Int)(d:a[k]?=some x)(c:b[k]?=some y):QJ (a.drop k) (b.drop k)=if q7b x y≠0 then q7b x y else QJ (a.drop (k+1)) (b.drop (k+1)):=by
 have⟨f,h⟩:=qic.1 d;have⟨e,g⟩:=qic.1 c;rw[qkE f,qkE e,h,g];rfl
def Yv(P Y O X:Nat)(D C:qhC)(a b:List Int)(w:qhy)(H:qd P Y w D a)(G:qd O X w C b) :qiw Ya 122 #[D,C] w λe N=>e=.returned (.int .i64 (QJ a b))/\w=N:=by
 obtain⟨ba,ca,rfl,T,L⟩:=H.cell;obtain⟨bb,cb,rfl,S,I⟩:=G.cell;have⟨H1,H2⟩:=qF L I;clear L I H G;go_enter Tp.x122,Tryz.ntmps122;go_wp2;go_loopw [11] (λr wr=>∃k:Nat,r=.int .i64 k/\k<=a.length/\k<=b.length/\QJ a b=QJ (a.drop k) (b.drop k)/\w=wr) (λr _=>(a.length - qj7 r).toNat)
 case atStart=>exact⟨0,rfl,by omega,by omega,rfl,rfl⟩
 case round=>
  obtain⟨k,rfl,hk,U,F,rfl⟩:=hrel;have p:=qhw F;clear F;by_cases d:k<a.length
  ·obtain⟨x,v⟩:∃x,a[k]?=some x:=⟨_,qhG d⟩;obtain⟨A1,o1,rfl,b0,a9,a8,l⟩:=H1.out (by intro e;rw[e] at d;simp at d);have B:=l k d;rw[v] at B;simp only[qi0] at B;have W:(k:Int)<(a.length:Int):=by omega
   have E1:=qhw v;clear l v;by_cases c:k<b.length
   ·obtain⟨y,u⟩:∃y,b[k]?=some y:=⟨_,qhG c⟩;obtain⟨B1,o2,rfl,a7,a6,Z,j⟩:=H2.out (by intro e;rw[e] at c;simp at c);have A:=j k c;rw[u] at A;simp only[qi0] at A;have V:(k:Int)<(b.length:Int):=by omega
    have i:=qa0 a b k x y E1.out u;have h:=qhw i;have g:=qeq x y w;clear j u i;generalize q7b x y=z at g h;have o:=qhw g;clear g;by_cases q:z=0
    ·subst q;go_wp2_with (go_at_call 157;refine(o.out).mono ?_;rintro e M ⟨rfl,rfl⟩);go_roundw
     case rel=>exact⟨k+1,by simp,by omega,by omega,by rw[p.out,h.out];simp,by first | trivial | rfl⟩
     case measure=>simp[qj7];omega
    ·have Q:(z != 0)=true:=by simpa using q
     have HZ:=qhw q;clear q;go_wp2_with (go_at_call 157;refine(o.out).mono ?_;rintro e M ⟨rfl,rfl⟩);go_ret;exact⟨by rw[p.out,h.out,if_pos HZ.out];rfl,rfl⟩
   ·have R:(b.length:Int)<=(k:Int):=by omega
    have f:QJ a b=1:=by
     rw[p.out,qli (show b.length<=k by omega),qkE d];rfl
    have n:=qhw f;clear f;go_wp2;go_ret;exact⟨by rw[n.out];rfl,rfl⟩
  ·obtain rfl:k=a.length:=by omega
   by_cases t:a.length<b.length
   ·have s:(a.length:Int)<(b.length:Int):=by omega
    have f:QJ a b=-1:=by
     rw[p.out,qli (qhz _),qkE t];rfl
    have n:=qhw f;clear f;go_wp2;go_ret;exact⟨by rw[n.out];rfl,rfl⟩
   ·have s:¬ (a.length:Int)<(b.length:Int):=by omega
    have f:QJ a b=0:=by
     rw[p.out,qli (qhz _),qli (show b.length<=a.length by omega)];rfl
    have n:=qhw f;clear f;go_wp2;go_ret;exact⟨by rw[n.out];rfl,rfl⟩
def Ys(j l i k:Nat)(d c:qhC)(a b:List Int)(w:qhy)(h:qd j l w d a)(g:qd i k w c b) :qiw Ya 99 #[d,c] w λe n=>e=.returned (.bool (decide (QJ a b<0)))/\w=n:=by
 have f:=Yv j l i k d c a b w h g;obtain⟨y,v,rfl,p,r⟩:=h.cell;obtain⟨x,u,rfl,o,q⟩:=g.cell;clear r q h g;generalize QJ a b=z at f ⊢;have s:=qhw f;clear f;go_enter Tp.x99,Tryz.ntmps99;go_wp2_with (go_at_call 122;refine(s).mono ?_;rintro e t ⟨rfl,rfl⟩);go_ret;exact⟨rfl,rfl⟩
def Jd(a b:List Int):Bool:=decide (b.length<a.length) || (decide (a.length=b.length) && decide (QJ a b<0))
def q26(s u r t:Nat)(i h:qhC)(a b:List Int)(w:qhy)(o:qd s u w i a)(n:qd r t w h b) :qiw Ya 98 #[i,h] w λe v=>e=.returned (.bool (Jd a b))/\w=v:=by
 have l:=Ys s u r t i h a b w o n;obtain⟨G,D,rfl,y,B⟩:=o.cell;obtain⟨F,C,rfl,x,A⟩:=n.cell;unfold Jd;generalize decide (QJ a b<0)=z at l ⊢;have p:=qhw l;clear l B A o n;by_cases d:b.length<a.length
 ·have j:(b.length:Int)<(a.length:Int):=by omega
  have f:(decide (b.length<a.length) || (decide (a.length=b.length) && z))=true:=by simp[d]
  have g:=qhw f;clear f d;go_enter Tp.x98,qro;go_wp2_with (go_at_call 99;refine(p).mono ?_;rintro e q ⟨rfl,rfl⟩);go_ret;exact⟨by rw[g];rfl,rfl⟩
 ·have j:¬ (b.length:Int)<(a.length:Int):=by omega
  by_cases c:a.length=b.length
  ·have k:((a.length:Int) == (b.length:Int))=true:=by simp[c]
   have f:(decide (b.length<a.length) || (decide (a.length=b.length) && z))=z:=by simp[c]
   have g:=qhw f;clear f d c;go_enter Tp.x98,qro;go_wp2_with (go_at_call 99;refine(p).mono ?_;rintro e q ⟨rfl,rfl⟩);go_ret;exact⟨by rw[g];rfl,rfl⟩
  ·have k:((a.length:Int) == (b.length:Int))=false:=by rw[beq_eq_false_iff_ne];omega
   have f:(decide (b.length<a.length) || (decide (a.length=b.length) && z))=false:=by simp[c];omega
   have g:=qhw f;clear f d c;go_enter Tp.x98,qro;go_wp2_with (go_at_call 99;refine(p).mono ?_;rintro e q ⟨rfl,rfl⟩);go_ret;exact⟨by rw[g];rfl,rfl⟩
def zX(n:Nat):List Int:=(qiz n).map λ(i:Nat)=>(i:Int)
def zN(n:Nat):(zX n).length=n:=by simp[zX]
def q98(n:Nat):zX (n+1)=zX n++[(n:Int)]:=by simp[zX,qm5]
def vp(q:Option qj5)(n p:Nat)(f:Int)(w:qhy)(X:n<=1000) :qiw Ya 100 #[.agg #[.slice q n p,f]] w λe r=>∃v,e=.returned v/\w.gb r none/\qd w.heap.size r.heap.size r v (zX n):=by
 have⟨P,z,y,x,u⟩:=qk1 Tp.info3p;have⟨Y,d,G,g,c,h⟩:=qT w (.cells #[.slice q n p,f] 91);have W:d.cell? Y=some (.slice q n p):=q8 h rfl;have S:Y<=d.heap.size:=by have:=c.size;omega
 have⟨A,T,i⟩:=qY g G c;clear g G c h;go_enter Tp.x100,Tryz.ntmps100;go_upto_region 1 with(fail);rw[<- T,<- A];go_wp2;go_loopw [3,9] (λL s wr=>∃k:Nat,s=.int .i64 k/\k<=n/\d.gb wr none/\wr.ownsRow d.heap.size 3 1 L k ((zX k).map (qim .i64))) (λ_ s _=>(n - qj7 s).toNat)
 case atStart=>exact⟨0,rfl,by omega,qi2 _ _,qjE _ _ _ _⟩
 case round=>
  obtain⟨k,rfl,Z,o,l⟩:=hrel;obtain⟨O,M,N,rfl⟩:=zi l;have⟨I,C⟩:=qF o l;have Q:=o.size;by_cases R:k<n
  ·have F:(k:Int)<(n:Int):=by omega
   clear o l;go_wp2_with (at_builtin;(refine ql8 _ rfl _ _ 29 rfl d.heap.size 3 P _ 1 8 Tp.und29' z y x u rfl (by decide) (.slice O M N) k _ rfl (C.alloc _) ⟨wr.heap.size,0,none⟩ 1 1 [.int .i64 k] rfl rfl (qjh (cs:=#[k]) (t:=3) (fr:=(0,0)) (qhH wr _)) (by simp[qjF]) (by unfold qlc;omega) (by omega) (by simp;omega) ?_);intro V U a b _;obtain⟨g',H,rfl⟩:=qme a;have B:=qhw a;have D:=qhw b;clear a b);go_roundw
   case rel=>
    refine⟨k+1,by simp,by omega,(I.t (qhx _ _ none)).andThen D (λj e=>.inl (C.lt j e).1),?_⟩;rw[q98,qk0];exact B
   case measure=>simp[qj7];omega
  ·obtain rfl:k=n:=by omega
   clear o l;go_wp2;go_ret;exact⟨_,rfl,i.t I,(qd.own C (by rw[zN];omega)).mono i.size (qhz _)⟩
def qhg(L:Nat)(s:Bool)(d c:qhC)(a x:List Int)(w b:qhy):Prop :=
 w.gb b (some L)/\b.heap[L]?=some (.cells #[.func (.func 98) #[] #[],if s=true/\Jd x a=false then d else c,.bool true] 108 (0,0))
def qaw(L:Nat)(s:Bool)(k g:qhC)(a x:List Int)(w:qhy)(c:w.heap[L]?=some (.cells #[.func (.func 98) #[] #[],k,.bool s] 108 (0,0)))(j:qd 0 w.heap.size w k a)(i:qd 0 w.heap.size w g x) :qiw Ya 103 #[.pointer (some L),g] w λe q=>e=.returned (.tuple #[])/\qhg L s k g a x w q:=by
 obtain⟨z,y,rfl,-,-⟩:=j.cell;obtain⟨f,d,rfl,-,-⟩:=i.cell;have v:w.cell? L=some (.func (.func 98) #[] #[]):=q8 c rfl;have u:w.cell? ⟨L,1,none⟩=some (.slice z a.length y):=q8 c rfl;have r:w.cell? ⟨L,2,none⟩=some (.bool s):=q8 c rfl;have B:w.frozen? ⟨L,1,none⟩=false:=qj c;have A:w.frozen? ⟨L,2,none⟩=false:=qj c;have⟨l,o,n⟩:=qY c j i;have C:=qhw (qie v (qie u r));clear c j i;go_enter Tp.x103,Tryz.ntmps103;cases s with
 | false=>
  go_wp2_with (fail);go_quiet (fail);go_wp2;go_end0;refine⟨rfl,((qi _ _ _).t (qf _ _ _ _)).t (qf _ _ _ _),?_⟩;rw[if_neg (by simp ),qg (show((w.drewN nq).setCell ⟨L,1,none⟩ (.slice f x.length d)).heap[L]?=some (.cells #[.func (.func 98) #[] #[],.slice f x.length d,.bool false] 108 (0,0)) by rw[qg (show(w.drewN nq).heap[L]?=_ from l)];rfl)];rfl
 | true=>
  cases hl:Jd x a with
  | true=>
   have b:=qhw hl;clear hl;go_wp2_with (fail);go_quiet (first | (go_at_call 98;refine qk7 ((q26 0 w.heap.size 0 w.heap.size _ _ x a _ (n.kept (qi _ _ none)) (o.kept (qi _ _ none))).mono (λe p h=>⟨by rw[h.1,b],h.2.symm⟩))));go_wp2;go_end0;refine⟨rfl,((qi _ _ _).t (qf _ _ _ _)).t (qf _ _ _ _),?_⟩;rw[if_neg (by simp[b.out]),qg (show((w.drewN nq).setCell ⟨L,1,none⟩ (.slice f x.length d)).heap[L]?=some (.cells #[.func (.func 98) #[] #[],.slice f x.length d,.bool true] 108 (0,0)) by rw[qg (show(w.drewN nq).heap[L]?=_ from l)];rfl)];rfl
  | false=>
   have b:=qhw hl;clear hl;go_wp2_with (fail);go_quiet (first | (go_at_call 98;refine qk7 ((q26 0 w.heap.size 0 w.heap.size _ _ x a _ (n.kept (qi _ _ none)) (o.kept (qi _ _ none))).mono (λe p h=>⟨by rw[h.1,b],h.2.symm⟩))));go_wp2;go_end0;refine⟨rfl,(qi _ _ _),?_⟩;rw[if_pos ⟨rfl,b⟩];exact l
end
section
open Go Go.RowKit
def A5(l:List Int):qhC:=.agg (l.map (qim .i64)).toArray
def Tp.und118:Ya.underlying 118=some (.array 5 3):=by rw[Tp.und];exact Tryz.underlying118
def Tp.und120:Ya.underlying 120=some (.map 118 3):=by rw[Tp.und];exact Tryz.underlying120
def Tp.und3q:Ya.underlying 3=some (.int .i64):=by rw[Tp.und];exact Tryz.underlying3
def qeG(l:List Int)(i:Nat)(x:Int)(h:l[i]?=some x)(w:qhy):(part 3 (l.map (qim .i64)).toArray i).run Ya w=.ok (.int .i64 x) w :=
 run_part_plain w (by kernel_rfl) (by simp[h])
def qcy(x y:Int)(s t:List Int):decide (x::s=y::t)=((x == y) && decide (s=t)):=by
 by_cases e:x=y<;>simp[e]
def q5d(a b:List Int)(d:a.length=b.length)(w:qhy):∀(m k:Nat),k+m=a.length->(Op.eqItems 9999 3 1 (a.map (qim .i64)).toArray (b.map (qim .i64)).toArray (qp2 k m)).run Ya w=.ok (decide (a.drop k=b.drop k)) w
 | 0,k,h=>by
  rw[qli (by omega),qli (by omega)];simp[Op.eqItems]
 | m+1,k,h=>by
  have c:=q5d a b d w m (k+1) (by omega);have g:a[k]?=some a[k]:=qhG (by omega);have f:b[k]?=some b[k]:=qhG (by omega);rw[List.range'_succ];simp only[Op.eqItems,Nat.mul_one,qjz,qeG a k _ g,qeG b k _ f,qjv,run_equalIn_int w 9998 3 .i64 .i64 _ _ Tp.und3q];have e:decide (a.drop k=b.drop k)=((a[k] == b[k]) && decide (a.drop (k+1)=b.drop (k+1))):=by
   rw[qkE (show k<a.length by omega),qkE (show k<b.length by omega)];exact qcy _ _ _ _
  rw[e];cases(a[k] == b[k])
  ·simp
  ·simpa using c
def eqA5(a b:List Int)(f:a.length=5)(e:b.length=5)(w:qhy):(Op.equalIn 10000 118 (A5 a) (A5 b)).run Ya w=.ok (decide (a=b)) w:=by
 obtain⟨i,c⟩:∃i,Ya.info? 3=some i:=⟨_,(qk1 Tp.info3p).choose_spec.1⟩;have d:Ya.cellsOf 3=1:=by kernel_rfl
 unfold A5;rw[show(10000:Nat)=9999+1 from rfl,run_equalIn_array w 9999 _ _ Tp.und118 c,d,List.range_eq_range',q5d a b (by omega) w 5 0 (by omega)];rfl
def qcf(a:List Int)(o:a.length=5)(w:qhy):∀(b:List qlp) (K:List (List Int)) (i:Nat),b.map (·.key)=K.map A5->(∀k∈K,k.length=5)->(∀e∈b,∃v:Int,e.val=.int .i64 v) ->∃r,(qmg 118 (A5 a) b i).run Ya w=.ok r w/\(a∈K->∃j v,r=some (j,.int .i64 v))/\(a∉K->r=none)
 | [],K,i,h,_,_=>by
  have:K=[]:=by simpa using h.symm
  subst this;exact⟨none,by simp[qmg],by simp,by simp⟩
 | e::b,[],i,h,_,_=>by simp at h
 | e::b,k::K,i,h,p,l=>by
  simp only[qle,ql3] at h;have q:=eqA5 a k o (p k (by simp)) w;have n:(Op.equal 118 (A5 a) e.key).run Ya w=.ok (decide (a=k)) w:=by rw[h.1];exact q
  by_cases f:a=k
  ·subst f;have⟨v,g⟩:=l e (by simp);refine⟨some (i,e.val),?_,λ_=>⟨i,v,by rw[g]⟩,λd=>absurd (by simp) d⟩;simp only[qmg,qjz,n,qjv,decide_true,if_true,qn8]
  ·have⟨r,u,t,s⟩:=qcf a o w b K (i+1) h.2 (λx c=>p x (by simp[c])) (λx c=>l x (by simp[c]));refine⟨r,?_,λhm=>t ((qjB.1 hm).resolve_left f),λd=>s λhm=>d (by simp[hm])⟩;simp only[qmg,qjz,n,qjv];simpa[f] using u
def qh9(a b:Array qhC)(v:qhC)(n:Nat)(c:List qlp)(w:qhy):(qmz 118 (.agg a) (⟨.agg b,v,n⟩::c)).run Ya w=(qmg 118 (.agg a) (⟨.agg b,v,n⟩::c)).run Ya w:=by kernel_rfl
def q57(a:List Int)(g:a.length=5)(w:qhy)(b:List qlp)(K:List (List Int))(h:b.map (·.key)=K.map A5)(i:∀k∈K,k.length=5)(d:∀e∈b,∃v:Int,e.val=.int .i64 v) :∃r,(qmz 118 (A5 a) b).run Ya w=.ok r w/\(a∈K->∃j v,r=some (j,.int .i64 v))/\(a∉K->r=none):=by
 cases b with
 | nil=>
  have:K=[]:=by simpa using h.symm
  subst this;exact⟨none,by unfold A5;kernel_rfl,by simp,by simp⟩
 | cons e b=>
  obtain⟨k,c,rfl⟩:∃k c,K=k::c:=by
   cases K with
   | nil=>simp at h
   | cons k c=>exact⟨k,c,rfl⟩
  have⟨r,n,l⟩:=qcf a g w (e::b) (k::c) 0 h i d;refine⟨r,?_,l⟩;obtain⟨p,o,q⟩:=e;have f:p=A5 k:=by simpa using(List.cons.inj h).1
  subst f;exact(qh9 _ _ o q b w).t n
def q7d(b:Bool)(a:List Int)(h:a.length=5)(w:qhy):(qm0 b 10000 118 (A5 a)).run Ya w=.ok () w:=by
 obtain⟨g,f,e,d,c,rfl⟩:∃g f e d c,a=[g,f,e,d,c]:=by
  rcases a with _ | ⟨g,_ | ⟨f,_ | ⟨e,_ | ⟨d,_ | ⟨c,_ | ⟨i,t⟩⟩⟩⟩⟩⟩<;>simp at h;exact⟨g,f,e,d,c,rfl⟩
 show(qm0 b 10000 118 (.agg #[.int .i64 g,.int .i64 f,.int .i64 e,.int .i64 d,.int .i64 c])).run Ya w=.ok () w;kernel_rfl
def zU(w:qhy)(r:Nat)(K:List (List Int)):Prop :=
 ∃b a,w.heap[r]?=some (.map b a)/\b.toList.map (·.key)=K.map A5/\(∀k∈K,k.length=5)/\∀e∈b.toList,∃v:Int,e.val=.int .i64 v
def zU.look{w:qhy}{r:Nat}{K:List (List Int)}(h:zU w r K)(a:List Int)(b:a.length=5):∃v:Int,(qny 120 (.map (some r)) (A5 a) true).run Ya w=.ok (.tuple #[v,.bool (decide (a∈K))]) w:=by
 obtain⟨o,c,e,n,l,k⟩:=h;have⟨q,d,g,f⟩:=q57 a b w o.toList K n l k;have i:∀w,(qmE 3).run Ya w=.ok (.int .i64 0) w:=λw=>by kernel_rfl
 by_cases hm:a∈K
 ·obtain⟨j,v,rfl⟩:=g hm;refine⟨v,?_⟩;simp[qny,qjz,qoq Tp.und120,getObj,qjk,e,qnt,q7d _ a b,d,hm]
 ·obtain rfl:=f hm;refine⟨0,?_⟩;simp[qny,qjz,qoq Tp.und120,getObj,qjk,e,qnt,q7d _ a b,d,hm,i]
def zU.add{w:qhy}{r:Nat}{K:List (List Int)}(h:zU w r K)(a:List Int)(d:a.length=5)(u:a∉K)(v:Int):∃o,(∀m t,o≠.cells m t (0,0))/\(qjH 120 (.map (some r)) (A5 a) (.int .i64 v)).run Ya w=.ok () (w.putObj r o)/\∀c,c.heap[r]?=some o->zU c r (K++[a]):=by
 obtain⟨l,b,y,j,i,g⟩:=h;have⟨q,p,z,n⟩:=q57 a d w l.toList K j i g;obtain rfl:=n u;refine⟨.map (l.push ⟨A5 a,.int .i64 v,b⟩) (b+1),(λm t e=>(by cases e)),?_,λc s=>⟨_,_,s,by simp[j],λk x=>?_,λe f=>?_⟩⟩
 ·simp[qjH,qjz,qoq Tp.und120,getObj,setObj,qjk,y,qnt,q7d _ a d,p,World.putObj]
 ·rcases qkn.1 x with h | h
  ·exact i k h
  ·rw[qkv.1 h];exact d
 ·rw[Array.toList_push] at f;rcases qkn.1 f with h | h
  ·exact g e h
  ·rw[qkv.1 h];exact⟨v,rfl⟩
def zU.nil{w:qhy}{r:Nat}(h:w.heap[r]?=some (.map #[] 0)):zU w r []:=⟨_,_,h,rfl,by simp,by simp⟩
def zU.kept{w w':qhy}{r:Nat}{K:List (List Int)}(h:zU w r K)(e:w'.heap[r]?=w.heap[r]?):zU w' r K:=by
 obtain⟨g,a,f,d⟩:=h;exact⟨g,a,e.t f,d⟩
end
section
open Go.RowKit
def Jr(n1:Nat)(G:Nat->Prop)(W:qhy)(v:qhC)(l:List Int):Prop:=qd n1 W.heap.size W v l/\∀B o n c,v=.slice (some ⟨B,o,none⟩) n c->l≠[]->¬ G B
def Jr.bod{n1:Nat}{G G':Nat->Prop}{A C:qhy}{v:qhC}{l:List Int}(h:Jr n1 G A v l)(d:Bod n1 n1 G G' A C):Jr n1 G' C v l:=by
 obtain⟨⟨base,i,rfl,u,j⟩,k⟩:=h;refine⟨⟨base,i,rfl,u,λa=>?_⟩,λB o n c e a w=>?_⟩
 ·have⟨B,o,s,p,b,g,f,r,q⟩:=j a;exact⟨B,o,s,p,b,g,qia f d.size,(d.keep B f (.inl g) (k B o _ _ (by rw[b]) a)).t r,q⟩
 ·have⟨y,x,s,p,b,g,f,r,q⟩:=j a;rw[b] at e;cases e;exact(d.fp _ w).elim (k _ _ _ _ (by rw[b]) a) (by omega)
def jX{n1 B:Nat}{G:Nat->Prop}{A C:qhy}(a:A.gb C none):Bod n1 B G G A C:=⟨a.tape,a.size,λk b _ _=>a.block k b (by simp),λ_ h=>.inl h⟩
structure Yy(n1 E Lv Gp:Nat)(lb:Option qj5)(lc:Nat)(ws:List Int)(fE:qjf)(jC:Array qhC)(G:Nat->Prop)(W:qhy):Prop where
 en:W.heap[E]?=some (.cells #[.func (.func fE) #[] jC] 51 (0,0))
 ls:W.heap[Lv]?=some (.cells #[.slice lb ws.length lc] 29 (0,0))
 li:Jr n1 G W (.slice lb ws.length lc) ws
 gr:W.heap[Gp]?=some (.cells #[.func (.func 136) #[] #[.pointer (some E),.pointer (some Lv),.pointer (some Gp)]] 151 (0,0))
 ge:n1<=E/\n1<=Lv/\n1<=Gp
 nf:¬ G E/\¬ G Lv/\¬ G Gp
section
variable{n1 E Lv Gp:Nat}{lb:Option qj5}{lc:Nat}{ws:List Int}{fE:qjf}{jC:Array qhC}{G G':Nat->Prop}{A C:qhy}
def Yy.bod(h:Yy n1 E Lv Gp lb lc ws fE jC G A)(a:Bod n1 n1 G G' A C):Yy n1 E Lv Gp lb lc ws fE jC G' C:=by
 have d:=(qhB.1 h.en).1;have c:=(qhB.1 h.ls).1;have b:=(qhB.1 h.gr).1;exact⟨(a.keep E d (.inl h.ge.1) h.nf.1).t h.en,(a.keep Lv c (.inl h.ge.2.1) h.nf.2.1).t h.ls,h.li.bod a,(a.keep Gp b (.inl h.ge.2.2) h.nf.2.2).t h.gr,h.ge,
  λe=>(a.fp _ e).elim h.nf.1 (by omega),λe=>(a.fp _ e).elim h.nf.2.1 (by omega),λe=>(a.fp _ e).elim h.nf.2.2 (by omega)⟩
end
def qdb(ws:List Int)(done L:List (List Int)):Prop:=∃t,yG ws 0=done++(L++t)
structure Cb(n1:Nat)(ws:List Int)(fE:qjf)(jC:Array qhC)(I:List (List Int)->(Nat->Prop)->qhy->Prop):Prop where
 hI:∀s G A C,I s G A->A.grownBy C none->I s G C
 hlt:∀s G A,I s G A->∀k,G k->k<A.heap.size
 en:∀a w,(callFunc fE a).run Ya w=.ok (.enter fE a) w
 cb:∀done G W v c,I done G W->qd 0 W.heap.size W v c->(c≠[]\/v=.slice none 0 0)->c.Sublist ws->qdb ws done [c] ->
  qiw Ya fE (#[v]++jC) W λe W'=>e=.returned (.bool false)/\∃G',I (done++[c]) G' W'/\Bod n1 n1 G G' W W'
def GrA(n1:Nat)(I:List (List Int)->(Nat->Prop)->qhy->Prop)(L:List (List Int))(done:List (List Int))(G:Nat->Prop)(W:qhy)(e:Ending)(a:qhy):Prop :=
 e=.returned (.bool false)/\∃G',I (done++L) G' a/\Bod n1 n1 G G' W a
def qh6{n1 E Lv Gp:Nat}{lb:Option qj5}{lc:Nat}{ws:List Int}{fE:qjf}{jC:Array qhC}{I:List (List Int)->(Nat->Prop)->qhy->Prop}(p:Cb n1 ws fE jC I){a:List Int}{b:Nat}{i:Option qj5}{g:Nat}{W:qhy}{G:Nat->Prop}{done:List (List Int)}(c:a.Sublist (ws.take b))(n:Yy n1 E Lv Gp lb lc ws fE jC G W)(o:Jr n1 G W (.slice i a.length g) a)(f:a≠[]\/qiH i a.length g=.slice none 0 0)(d:qdb ws done (zR ws 0 a b))(h:I done G W) :qiw Ya 136 #[.slice i a.length g,b,.int .i64 (0:Nat),.pointer (some E),.pointer (some Lv),.pointer (some Gp)] W (GrA n1 I (zR ws 0 a b) done G W):=by
 have u:W.cell? E=some (.func (.func fE) #[] jC):=q8 n.en rfl;have q:=p.en;have l:=p.cb done G W _ a h (o.1.mono (qix _) (qhz _)) f (c.trans (qrn _ _)) d;have r:=qhw l;clear l n o h f d;go_enter Tp.x136,Tryz.ntmps136;go_wp2_with (refine(r).mono ?_;rintro e t ⟨rfl,s,k,j⟩);go_ret;exact⟨rfl,s,k,j⟩
def QA(w:qhy)(a b:Nat)(e:qid):a<=qm4 w a b e:=by
 unfold qm4;simp only[Question.cut];omega
def q1E{w:qhy}{l:List Int}{zs:Array qhC}(d:l.length<=1000000)(a:Nat) :qd w.heap.size (w.drew.alloc (.cells ((l.map (qim .i64)).toArray++zs) 3)).heap.size (w.drew.alloc (.cells ((l.map (qim .i64)).toArray++zs) 3)) (.slice (some w.heap.size) l.length a) l:=by
 have c:(w.drew.alloc (.cells ((l.map (qim .i64)).toArray++zs) 3)).heap[w.heap.size]?=some (.cells ((l.map (qim .i64)).toArray++zs) 3 (0,0)):=qhH w.drew _;refine⟨_,a,rfl,by omega,λ_=>⟨w.heap.size,0,_,_,rfl,qhz _,?_,c,λi b=>?_⟩⟩
 ·exact(qhB.1 c).1
 ·rw[qib,qnu (by simpa using b)];simp[qhG b]
def q8H{w:qhy}{z:Option qj5}{M B:Nat}{a:List Int}{x:Int}(y:qid)(I:qd 0 w.heap.size w (.slice z a.length M) a)(N:w.cell? B=some (.int .i64 x))(S:a.length<=1000) :∃g d u,(qlz #[29,29] y #[.slice z a.length a.length,.slice (some B) 1 1]).run Ya w=.ok (.slice (some ⟨g,0,none⟩) (a.length+1) d) u/\w.heap.size<=g/\w.gb u none /\qd w.heap.size u.heap.size u (.slice (some ⟨g,0,none⟩) (a.length+1) d) (a++[x])/\a.length+1<=d:=by
 have⟨H,s,r,h,q⟩:=qk1 Tp.info3p;have f:∀j v,([qim .i64 x]:List qhC)[j]?=some v->w.cell? ((⟨B,0,none⟩:qj5).add j)=some v:=λj v k=>by
  have:j=0:=by have:=(qic.1 k).1;simp at this;omega
  subst this;simp at k;subst k;simpa[Addr.add] using N
 have p:(a++[x]).length=a.length+1:=by simp
 cases z with
 | none=>
  have R:a=[]:=by
   refine qiG λD=>?_;obtain⟨base,d,e,_,n⟩:=I;cases e;have⟨B,o,U,T,F,_⟩:=n D;cases F
  subst R;have n:=run_append_nil (P:=Ya) w 29 y 3 H _ Tp.und29' s r ⟨B,0,none⟩ 1 1 [qim .i64 x] (by rw[h];rfl) f (by omega) (by omega) (by rw[q];omega);have:=q1E (w:=w) (l:=[x]) (zs:=qkl (qim .i64 0).cells (qm4 w 1 0 3 - 1)) (by simp) (qm4 w 1 0 3);exact⟨_,_,_,n,qhz _,(q9 w none).t (qhx _ _ none),this,QA _ _ _ _⟩
 | some b=>
  have i:∀j v,(a.map (qim .i64))[j]?=some v->w.cell? (b.add j)=some v:=λj v k=>by
   have c:j<a.length:=by simpa using(qic.1 k).1
   have⟨base,d,e,_,O⟩:=I.cell;cases e;have⟨V,o,F,_,_,_,Q⟩:=O (by intro e;rw[e] at c;simp at c);cases F;have L:=Q j c;rw[qjA,qhG c] at k;rw[qhG c] at L;cases k;exact jI L
  have n:=run_append_grow (P:=Ya) w 29 y 3 H _ Tp.und29' s r b a.length a.length (a.map (qim .i64)) (by rw[h];simp) i ⟨B,0,none⟩ 1 1 [qim .i64 x] (by rw[h];rfl) f (by omega) (by omega) (growslice_fits (by omega) (by rw[q];omega));have:=q1E (w:=w) (l:=a++[x]) (zs:=qkl (qim .i64 0).cells (qm4 w (a.length+1) a.length 3 - (a.length+1))) (by simp;omega) (qm4 w (a.length+1) a.length 3);have e:(a.map (qim .i64)).toArray++[qim .i64 x].toArray=((a++[x]).map (qim .i64)).toArray:=by simp
  rw[e] at n;rw[p] at this;exact⟨_,_,_,n,qhz _,(q9 w none).t (qhx _ _ none),this,QA _ _ _ _⟩
def Ki{d:Array qjx}{o:qjx}{a:Act}{w:qhy}{K:Act->qhy->Prop}{Q:Exit->Act->qhy->Prop}{E:Prop}(f:qiy o (qjG d a.tmps)=true)(s x:qj0)(e:o.op=.call { callee:=.builtin .append,args:=#[s,x],argTypes:=#[29,29] }){nb:Option qj5}{nc B:Nat}{now:List Int}{y:Int}(hs:a.eval s=.slice nb now.length now.length)(hx:a.eval x=.slice (some B) 1 1)(hN:qd 0 w.heap.size w (.slice nb now.length nc) now)(hy:w.cell? B=some (.int .i64 y))(hl:now.length<=1000)(h:∀g b c,w.heap.size<=g->w.gb c none->qd w.heap.size c.heap.size c (.slice (some ⟨g,0,none⟩) (now.length+1) b) (now++[y])->now.length+1<=b->K (a.put o.dst (.slice (some ⟨g,0,none⟩) (now.length+1) b)) c) :if qiy o (qjG d a.tmps)=true then Oper.wp Ya o a w K Q else E:=by
 rw[if_pos f];have⟨g,b,c,i,n,l,k,j⟩:=q8H o.type hN hy hl;unfold Oper.wp ql0;simp only[e,resolve,invoke,builtin,qjz,qn8,qjv,qn1,qle,qna,hs,hx,i];exact h g b c n l k j
def qh5{n1 E Lv Gp:Nat}{lb:Option qj5}{lc:Nat}{ws:List Int}{fE:qjf}{jC:Array qhC}{I:List (List Int)->(Nat->Prop)->qhy->Prop}(cb:Cb n1 ws fE jC I)(k0:ws.length<=1000)(m:Nat)(ih:∀(b:List Int) (a:Nat) (p:Option qj5) (nc:Nat) (W:qhy) (G:Nat->Prop) (done:List (List Int)),m+b.length<=ws.length->a<=1001->b.Sublist (ws.take a)->Yy n1 E Lv Gp lb lc ws fE jC G W->Jr n1 G W (.slice p b.length nc) b->(b≠[]\/qiH p b.length nc=.slice none 0 0)->b.length<=nc->qdb ws done (zR ws m b a)->I done G W ->qiw Ya 136 #[.slice p b.length nc,a,m,.pointer (some E),.pointer (some Lv),.pointer (some Gp)] W (GrA n1 I (zR ws m b a) done G W))(b:List Int)(a:Nat)(p:Option qj5)(nc:Nat)(W:qhy)(G:Nat->Prop)(done:List (List Int))(k9:m+1+b.length<=ws.length)(a8:a<=1001)(l:b.Sublist (ws.take a))(hS:Yy n1 E Lv Gp lb lc ws fE jC G W)(hN:Jr n1 G W (.slice p b.length nc) b)(a7:b≠[]\/qiH p b.length nc=.slice none 0 0)(k8:b.length<=nc)(z:qdb ws done (zR ws (m+1) b a))(h:I done G W) :qiw Ya 136 #[.slice p b.length nc,a,.int .i64 ((m:Int)+1),.pointer (some E),.pointer (some Lv),.pointer (some Gp)] W (GrA n1 I (zR ws (m+1) b a) done G W):=by
 have l4:((m:Int)+1 == 0)=false:=by
  rw[beq_eq_false_iff_ne];omega
 have⟨d5,HS,HN,HH,R,c3⟩:=KX ih hS hN h l z;clear z;have k5:IntKind.i64.wrap (m:Int)=(m:Int):=qiv _ (by omega);clear ih hS hN h a7 l;go_enter Tp.x136,Tryz.ntmps136;go_wp2;go_loopw [10] (λX wr=>∃i:Nat,X=.int .i64 i/\a<=i/\i<=1001/\∃w L,zR ws (m+1) b a=L++zR ws (m+1) b i/\I (done++L) w wr/\Bod n1 n1 G w W wr) (λX _=>(1002 - qj7 X).toNat)
 case atStart=>exact⟨a,rfl,qhz _,a8,G,[],rfl,by simpa using HH.out,jX (qi2 _ _)⟩
 case round=>
  obtain⟨i,rfl,a9,l5,w,L,hL,O,k⟩:=hrel;have f:=qhw (HS.bod k);have c8:=qhw (HN.bod k);have⟨HL,u,T⟩:=qY hL O k;clear hL O k;have c1:wr.cell? Lv=some (.slice lb ws.length lc):=q8 f.ls rfl;by_cases d:i<ws.length
  ·have e7:(i:Int)<(ws.length:Int):=by omega
   obtain⟨x,q⟩:∃x,ws[i]?=some x:=⟨_,qhG d⟩;obtain⟨b1,m4,he,-,hc⟩:=f.out.li.1.cell;cases he;obtain⟨LB,lo,rfl,m3,l9,l8,P⟩:=hc (by intro e;rw[e] at d;simp at d);have U:=P i d;rw[q] at U;simp only[qi0] at U;have d0:wr.cell? Gp=some (.func (.func 136) #[] #[.pointer (some E),.pointer (some Lv),.pointer (some Gp)]):=q8 f.gr rfl;have d1:=c1;have d2:=U;have k6:IntKind.i64.wrap ((i:Int)+1)=((i+1:Nat):Int):=by rw[qiv _ (by omega)];rfl
   have a6:0<=(i:Int):=by omega
   have k7:(b.length:Int)<=(nc:Int):=by omega
   have s:=qhw q;clear hc P U q;go_upto_region 6 with(fail);refine qr 17 (λv=>v.cell? Gp=some (.func (.func 136) #[] #[.pointer (some E),.pointer (some Lv),.pointer (some Gp)])/\v.cell? Lv=some (.slice (some ⟨LB,lo,none⟩) ws.length lc)/\v.cell? ⟨LB,lo+i,none⟩=some (.int .i64 x)) (by kernel_rfl) (by kernel_rfl) ⟨d0,d1,d2⟩ (λhHeld=>?_);simp only[qi3,qi7,qii,qiB,qib,qij,qik,qiq,qin,qi9];refine tk 0 (h:=tk 1 (h:=tk 2 (h:=tk 3 (h:=tk 4 (h:=tk 5 (h:=tk 6 (h:=tk 7 (h:=tk 8 (h:=tk 9 (h:=tk 10 (h:=tk 13 (h:=tk 14 (h:=tk 15 (h:=tk 16 (h:=?_)))))))))))))));try go_frame
   refine rdc 11 λK M=>?_;go_simp;refine M.out _ _ (by first | exact V | exact hHeld | exact⟨(qhx _ _ none).cl hHeld.1,(qhx _ _ none).cl hHeld.2.1,(qhx _ _ none).cl hHeld.2.2⟩) (λhHeld=>?_);clear M K;try go_frame
   refine rdc 12 λK M=>?_;refine Ki rfl (.tmp 29) (.tmp 34) rfl (nc:=nc) (B:=wr.heap.size) (y:=x) (by rfl) (by rfl) (((c8.1.kept ((q9 wr none).trans (qhx wr.drew (.cells #[.int .i64 x] 3) none))).mono (qix _) ((q9 wr none).trans (qhx wr.drew (.cells #[.int .i64 x] 3) none)).size)) (kq wr.drew _ _ _) (by omega) (λg Q v q1 q2 q3 q5=>?_);have j:=qhw (((q9 wr none).trans (qhx wr.drew (.cells #[.int .i64 x] 3) none)).trans q2);have⟨b8,b9,b7⟩:=qY q3 q1 q5;have V:=qie (j.cl d0) (qie (j.cl d1) (j.cl d2));clear q1 q2 q3 q5;refine M.out _ _ (by first | exact V | exact hHeld | exact⟨(qhx _ _ none).cl hHeld.1,(qhx _ _ none).cl hHeld.2.1,(qhx _ _ none).cl hHeld.2.2⟩) (λhHeld=>?_);clear M K;try go_frame
   refine⟨by kernel_rfl,?_⟩;simp only[qig,qit];clear hHeld V;have Z:n1<=wr.heap.size:=qrp (Nat.lt_of_le_of_lt f.ge.1 (qhB.1 f.en).1);have D:(wr.drew.alloc (.cells #[.int .i64 x] 3)).heap.size=wr.heap.size+1:=by rw[qi6];rfl
   have Y:wr.heap.size<=g:=by have h1:=b9.out;have h2:((wr.alloc (.cells #[.int .i64 x] 3)).drew).heap.size=wr.heap.size+1:=(by rw[World.size_drew,qi6]);omega
   have F:=f.out.bod (jX j);have N:=cb.hI _ _ _ _ u j;have H:Jr n1 w v (.slice (some ⟨g,0,none⟩) (b.length+1) Q) (b++[x]):=by
    refine⟨b8.mono (qi1 Z (qrp (by rw[<- Nat.add_one_le_iff];exact qn5 D.symm))) (qhz _),λB o n c e _ hg=>?_⟩;cases e;have:=cb.hlt _ _ _ u _ hg;omega
   have r:=d5.out (b++[x]) (i+1) (some ⟨g,0,none⟩) Q v w (done++L) (by simp;omega) (by omega) (by
    rw[qja,s];exact List.Sublist.append (R.trans (List.take_sublist_take_left a9)) (by simp)) F (by simpa using H) (.inl (by simp)) (by simpa using b7.out) (by
    have⟨t,ht⟩:=c3.out;rw[HL,ZF d,s] at ht;exact⟨_,by rw[ht];simp only[qkt];rfl⟩) N
   rw[qjm,qov] at r;have S:=qhw r;clear r H N F D Y;go_wp2_with (go_at_call 136;refine(S).mono ?_;rintro e w6 ⟨rfl,G6,b6,b0⟩);go_roundw
   case rel=>
    refine⟨i+1,by simp,by omega,by omega,G6,L++zR ws m (b++[x]) (i+1),?_,by rw[<- qkt];exact b6,T.trans ((jX j).trans b0)⟩;rw[HL,ZF d,s,qkt];rfl
   case measure=>simp[qj7];omega
  ·have a6:¬ (i:Int)<(ws.length:Int):=by omega
   go_wp2;go_ret;exact⟨rfl,w,by rw[HL,q29 (by omega),qo3];exact u,T⟩
def qf4{n1 E Lv Gp:Nat}{lb:Option qj5}{lc:Nat}{ws:List Int}{fE:qjf}{jC:Array qhC}{I:List (List Int)->(Nat->Prop)->qhy->Prop}(l:Cb n1 ws fE jC I)(e:ws.length<=1000) :∀(m:Nat) (b:List Int) (a:Nat) (d:Option qj5) (c:Nat) (W:qhy) (G:Nat->Prop) (done:List (List Int)),m+b.length<=ws.length->a<=1001->b.Sublist (ws.take a)->Yy n1 E Lv Gp lb lc ws fE jC G W->Jr n1 G W (.slice d b.length c) b->(b≠[]\/qiH d b.length c=.slice none 0 0)->b.length<=c->qdb ws done (zR ws m b a)->I done G W ->qiw Ya 136 #[.slice d b.length c,a,m,.pointer (some E),.pointer (some Lv),.pointer (some Gp)] W (GrA n1 I (zR ws m b a) done G W)
 | 0,b,a,d,c,W,G,done,_,_,k,j,i,h,_,f,g=>qh6 l k j i h f g
 | m+1,b,a,d,c,W,G,done,p,n,k,j,i,h,f,o,g=>by
  have:=qh5 l e m (qf4 l e m) b a d c W G done p n k j i h f o g
  rwa [show((m:Int)+1)=((m+1:Nat):Int) by omega] at this
end
section
open Go.RowKit Go.Shelf
attribute [local go_sem] Oper.semAt_some
def Zu{Y:Type}(f:Nat->Y)(k:Nat):List Y:=(qiz k).map f
def q18{Y:Type}(f:Nat->Y)(k:Nat):Zu f (k+1)=Zu f k++[f k]:=by simp[Zu,qm5]
def q3x{Y:Type}(f:Nat->Y)(k:Nat):(Zu f k).length=k:=by simp[Zu]
def qag(a:List Int):Zu (λj=>a[j]?.getD 0) a.length=a:=by
 apply qrD
 ·simp[Zu]
 ·intro i c b;simp[Zu,b]
def q8p(a:List Int){k:Nat}(b:k<=a.length):Zu (λj=>a[j]?.getD 0) k=a.take k:=by
 apply qrD
 ·simp[Zu,b]
 ·intro i c d;have:i<a.length:=by simp[Zu] at c;omega
  simp[Zu,this]
def q5F(F:Fence)(n:Nat)(P:F.fn 165)(u:F.round=none)(S:1<=n)(l Bs n₀ b c a A:Nat)(d:List Int)(s:a*8<=140737488351232)(L:b<n₀)(J H:List Int->qhy->Prop)(M:∀pre x W,J pre W->pre.length<a->YieldAt F (n - 1) Ya l #[.int .i64 x] W λe f =>(e=.returned (.bool true)/\J (pre++[x]) f/\Below n₀ W f)\/(e=.returned (.bool false)/\H (pre++[x]) f))(W:qhy)(O:W.cell? Bs=some (.slice (some ⟨b,c,none⟩) a A))(I:∀j,j<a->W.cell? ⟨b,c+j,none⟩=some (.int .i64 (d[j]?.getD 0)))(Q:J [] W) :CallsIn F n Ya 165 #[.func (.yield l) #[] #[],.pointer (some Bs)] W λe f=>(∃v,e=.returned v) /\((∃B,B=Zu (λj=>d[j]?.getD 0) a/\J B f)\/(∃pre,(∃k,k<=a/\pre=Zu (λj=>d[j]?.getD 0) k)/\H pre f)):=by
 refine qpy Tp.x165 rfl P ?_ u;simp only[Tryz.ntmps165,qiu,qi3,qi7,qii,qiB,qij,qik,qiq,qlm,qin,qi9]
 gi_wp2
 gi_loopw [7] (λi wr=>∃k:Nat,k<=a/\i=.int .i64 k/\J (Zu (λj=>d[j]?.getD 0) k) wr/\Below n₀ W wr)
  (λi _=>a - (qj7 i).toNat)
 case atStart=>exact⟨0,qix _,rfl,Q,qoa _ _⟩
 case round=>
  obtain⟨k,T,rfl,r,g⟩:=hrel;have y:k<a->wr.cell? ⟨b,c+k,none⟩=some (.int .i64 (d[k]?.getD 0)):=λh=>(g.cell (p:=⟨b,c+k,none⟩) L).trans (I k h);by_cases o:k<a
  ·have⟨U,C,t,G,R,N⟩:=M _ (d[k]?.getD 0) wr r (by rw[q3x];exact o);have D:=y o
   gi_wp2
   refine N.mono ?_;rintro e V (⟨rfl,z,w⟩ | ⟨rfl,q⟩)
   ·gi_wp2
    go_roundw
    case rel=>exact⟨k+1,by omega,by simp,by rw[q18];exact z,g.trans w⟩
    case measure=>simp[qj7];omega
   ·gi_wp2
    refine qjw (results_none rfl _ _ _) rfl ?_;exact⟨⟨_,rfl⟩,.inr ⟨_,⟨k+1,by omega,(q18 _ _).symm⟩,q⟩⟩
  ·obtain rfl:k=a:=by omega
   gi_wp2
   go_end0;exact⟨⟨_,rfl⟩,.inl ⟨_,rfl,r⟩⟩
def q2q(F:Fence)(n:Nat)(f:F.fn 165)(a:F.round=none)(l Bs:Nat)(J:List Int->qhy->Prop)(W:qhy)(c:Option qj5)(k:Nat)(d:W.cell? Bs=some (.slice c 0 k))(g:J [] W) :CallsIn F n Ya 165 #[.func (.yield l) #[] #[],.pointer (some Bs)] W λe h=>(∃v,e=.returned v)/\J [] h:=by
 refine qpy Tp.x165 rfl f ?_ a;simp only[Tryz.ntmps165,qiu,qi3,qi7,qii,qiB,qij,qik,qiq,qlm,qin,qi9]
 gi_wp2
 gi_loopw [7] (λi wr=>i=.int .i64 0/\J [] wr) (λ_ _=>0)
 case atStart=>exact⟨rfl,g⟩
 case round=>
  obtain⟨rfl,b⟩:=hrel
  gi_wp2
  go_end0;exact⟨⟨_,rfl⟩,b⟩
def q2p(F:Fence)(n:Nat)(A:F.fn 165)(f:F.round=none)(D:1<=n)(Bs n₀:Nat)(v:qhC)(a:List Int)(w:qhy)(s:Bs<w.heap.size)(hn₀:n₀<=w.heap.size)(I:w.cell? Bs=some v)(M:qd 0 n₀ w v a) :SeqStopsK F n Ya 165 #[.pointer (some Bs)] (λx:Int=>#[qim .i64 x]) (Below n₀) (λu=>u=a) (λpre=>pre <+: a) a.length w:=λl J P W z _ _ L C=>by
 have g:=(z.cell (p:=⟨Bs,0,none⟩) s).t I;obtain⟨base,i,rfl,G,r⟩:=M.cell;by_cases y:a=[]
 ·subst y;exact(q2q F n A f l Bs J W base i g C).mono λe O ⟨q,c⟩=>⟨q,.inl ⟨_,rfl,c⟩⟩
 ·obtain⟨B,o,rfl,-,N,h,d⟩:=r y;have b:∀j,j<a.length->W.cell? ⟨B,o+j,none⟩=some (.int .i64 (a[j]?.getD 0)):=λj c=>(z.cell (p:=⟨B,o+j,none⟩) h).t (d j c);refine(q5F F n A f D l Bs n₀ B o a.length i a (by omega) N J P L W g b C).mono ?_;rintro e O ⟨q,⟨u,rfl,c⟩ | ⟨pre,⟨k,H,rfl⟩,c⟩⟩
  ·exact⟨q,.inl ⟨_,qag a,c⟩⟩
  ·exact⟨q,.inr ⟨_,by rw[q8p a H];exact List.take_prefix _ _,c⟩⟩
def q3q(F:Fence)(n:Nat)(X:F.fn 199)(L:F.fn 165)(f:F.round=none)(hn:3<=n)(Bs:Nat)(t:qhC)(i:List Int)(w:qhy)(H:Bs<w.heap.size)(G:w.cell? Bs=some t)(I:qd 0 w.heap.size w t i) :CallsIn F n Ya 199 #[.slice none 0 0,.func (.func 165) #[] #[.pointer (some Bs)]] w λe N=>∃v,e=.returned v/\N.ownsRow w.heap.size 3 1 v i.length (i.map (qim .i64))/\(v=.slice none 0 0↔i=[])/\Below w.heap.size w N:=by
 have Y:1<=n:=by omega
 have R:(i.length:Int)<=1000000:=by obtain⟨_,_,_,h,_⟩:=I;exact h
 have⟨O,S,z,y,u⟩:=qk1 Tp.info3p;refine qpc Tp.x199 rfl X ?_ f;simp only[Tryz.ntmps199,qiu,qi3,qi7,qii,qiB,qij,qik,qiq,qlm,qin,qi9]
 gi_wp2
 have Z:=Boxed.new w 29 (.slice none 0 0);have q:Below w.heap.size w (w.alloc (.cells #[.slice none 0 0] 29)):=(qoa _ w).alloc (qhz _) _;refine wpIn_rangeFunc_ownG f Y (gf:=165) (lb:=#[.pointer (some Bs)]) rfl L (enters_of Tp.x165 (by kernel_rfl) rfl)
  (q2p F (n - 1) L f (by omega) Bs w.heap.size t i _ (by simp;omega) (by simp) ((q.cell (p:=⟨Bs,0,none⟩) H).trans G) (I.alloc _)) belowK_t (belowK_b (by simp)) (qoa _ _) (λ_=>rfl)
  (λpre W=>(∃v,Boxed W w.heap.size 29 v/\W.ownsRow w.heap.size 3 1 v pre.length (pre.map (qim .i64))/\(v=.slice none 0 0↔pre=[]))/\Below w.heap.size w W)
  (λ_ _ _=>False)
  (OwnFrom.and (Own.from (holdsRow_own w.heap.size w.heap.size 29 3 1 (λpre=>pre.length) (λpre=>pre.map (qim .i64)) (λpre v=>v=.slice none 0 0↔pre=[])) _) (ownFrom_below (qhz _) (by simp)))
  (λ_ _ _ _ _ P _ _=>P)
  ⟨⟨_,Z,qjE _ _ _ _,by simp⟩,q⟩
  (λx=>{ tmps:=#[.slice none 0 0,.func (.func 165) #[] #[.pointer (some Bs)],.pointer (some w.heap.size),qhE,.slice none 0 0,.int .i64 x,.func (.func 165) #[] #[.pointer (some Bs)],.int .i64 x,qhE,qhE,qhE,qhE,qhE],defers:=[] }) ?assign ?body ?done ?stop
 case assign=>
  intro l x W K o
  gi_wp2
  exact o
 case body=>
  rintro l pre x W ⟨⟨v,s,a,d⟩,r⟩ Q;have G:=s.cell
  gi_wp2_with (gi_at_builtin;refine wpListIn_append_own _ rfl _ _ 29 rfl w.heap.size 3 O (.int .i64 0) 1 8 Tp.und29' S z y u rfl (by decide) _ _ _ rfl (a.alloc _) ⟨W.heap.size,0,none⟩ 1 1 [.int .i64 x] rfl rfl (cell_one_new _ _ _) (by simp[qjF]) (by simp[qlc];omega) (by omega) (by have:=r.size;simp;omega) ?_;intro v' w1 b g _;obtain⟨g',M,rfl⟩:=qme b;have⟨j,A,B,C,k⟩:=s.appended (by decide) a r.size (qhz _) b g;have U:=j.cell;have T:=j.frozen)
  exact⟨C.from _,k,⟨_,A,by simpa using B,by simp⟩,r.trans k⟩
 case done=>
  rintro D ys W V rfl ⟨⟨v,s,a,d⟩,r⟩ o;have G:=s.cell
  gi_wp2
  refine⟨by simp,.inl ⟨_,_,rfl,qoB o,?_⟩⟩;exact⟨_,results_tmp rfl _ _ _,v,rfl,ownsRow_putObj a _ o rfl,d,r.trans (belowK_b (w:=w) (qhz _) W D _ _ (by simp at V;omega) o rfl rfl)⟩
 case stop=>
  rintro D c pre W _ _ h _;exact h.elim
def q16(Bs:Nat)(b:qhC)(a:List Int)(w:qhy)(c:Bs<w.heap.size)(f:w.cell? Bs=some b)(g:qd 0 w.heap.size w b a) :qiw Ya 199 #[.slice none 0 0,.func (.func 165) #[] #[.pointer (some Bs)]] w λe d=>∃v,e=.returned v/\d.ownsRow w.heap.size 3 1 v a.length (a.map (qim .i64))/\(v=.slice none 0 0↔a=[])/\Below w.heap.size w d :=
 (qkx (n:=3)).1 (q3q Fence.wide 3 trivial trivial rfl (by omega) Bs b a w c f g)
def xh{w a:qhy}(h:Below w.heap.size w a):w.gb a none:=⟨h.os,h.tape,h.output,h.size,λk b _=>h.block k b⟩
def qby{n:Nat}{w:qhy}{v:qhC}{l:List Int}(h:w.ownsRow n 3 1 v l.length (l.map (qim .i64)))(q:(l.length:Int)<=1000000):∃base B c,v=.slice base l.length c/\n<=B/\Zq base B w l/\(v=.slice none 0 0\/base≠none):=by
 obtain⟨s,⟨rfl,f⟩ | ⟨g,b,a,rfl,o,k,r,hm,p,j⟩⟩:=h
 ·exact⟨none,n,0,by rw[f],qhz _,.inr (qjq f),.inl rfl⟩
 ·refine⟨_,g,b,rfl,o,.inl ⟨rfl,a,k,λi d=>?_⟩,.inr (by simp)⟩;have e:(a.toList.take (l.length*1))[i]?=some (.int .i64 (l[i]?.getD 0)):=by
   rw[j];simp[qhG d]
  rw[qn9] at e;simpa[d] using e
def Zq.ints{base:Option qj5}{B c n:Nat}{w:qhy}{L:List Int}(h:Zq base B w L)(d:n<=B)(a:(L.length:Int)<=1000000):qd n w.heap.size w (.slice base L.length c) L:=by
 rcases h with⟨rfl,g,b,f⟩ | rfl
 ·exact⟨_,c,rfl,a,λ_=>⟨B,0,g,(0,0),rfl,d,(qhB.1 b).1,b,λi e=>by rw[qib];exact f i e⟩⟩
 ·exact⟨base,c,rfl,a,λh=>absurd rfl h⟩
def q5m(Bs:Nat)(d:qhC)(a:List Int)(w:qhy)(f:Bs<w.heap.size)(h:w.cell? Bs=some d)(j:qd 0 w.heap.size w d a) :qiw Ya 163 #[.func (.func 165) #[] #[.pointer (some Bs)]] w λe g=>∃v,e=.returned v/\g.ownsRow w.heap.size 3 1 v a.length (a.map (qim .i64))/\(v=.slice none 0 0↔a=[])/\w.gb g none:=by
 go_enter Tp.x163,Tryz.ntmps163;go_wp2_with (go_at_call 199;refine(q16 Bs d a w f h j).mono ?_;rintro e k ⟨v,rfl,b,c,i⟩);go_ret;exact⟨_,rfl,b,c,xh i⟩
def q6l(Bs:Nat)(k:qhC)(a:List Int)(w:qhy)(n:Bs<w.heap.size)(x:w.cell? Bs=some k)(y:qd 0 w.heap.size w k a)(o:a.length<=12) :qiw Ya 134 #[.func (.func 165) #[] #[.pointer (some Bs)]] w λe p=>∃v,e=.returned v/\qd w.heap.size p.heap.size p v (jA a.length a)/\(v=.slice none 0 0↔jA a.length a=[])/\w.gb p none:=by
 have l:(a.length:Int)<=1000000:=by omega
 go_enter Tp.x134,Tryz.ntmps134;go_wp2_with (first
  | (go_at_call 163;refine(q5m Bs k a w n x y).mono ?_;rintro e D ⟨v,rfl,b,d,t⟩;obtain⟨base,B,c,rfl,u,f,-⟩:=qby b l;have q:=qhw f;have z:=qhw d;have A:=qhw t;clear b f d t)
  | (go_at_call 164;refine(qgx base B c a _ q o).mono ?_;rintro e C ⟨rfl,i,g⟩;have s:=qhw i;have r:=qhw g;clear i g))
 go_ret;have h:=Zq.ints (c:=c) r u (by rw[xQ];omega);rw[xQ] at h;refine⟨_,rfl,h,z.trans ⟨λe=>by rw[e];rfl,λe=>?_⟩,A.andThen s (λj e=>by cases e;exact .inl u)⟩;have:=xQ a.length a;rw[e] at this;exact qjq this.symm
def Jp(l b:List Int):Prop:=∀(Bs:Nat) (sv:qhC) (w:qhy),Bs<w.heap.size->w.cell? Bs=some sv->qd 0 w.heap.size w sv l ->
 qiw Ya 134 #[.func (.func 165) #[] #[.pointer (some Bs)]] w λe a=>∃v,e=.returned v/\qd w.heap.size a.heap.size a v b/\(v=.slice none 0 0↔b=[])/\w.gb a none
def q8D{l:List Int}(a:l.length<=12):Jp l (jA l.length l):=λBs b w e d c=>q6l Bs b l w e d c a
def q8C{l:List Int}(a:l.length<=12)(b:∀i,i+1<l.length->l[i]?.getD 0<=l[i+1]?.getD 0):Jp l l:=by
 have:=q8D a
 rwa [KT b _ (qhz _)] at this
end
section
open Go.RowKit
def Q0{A C E:qhy}{r:Nat}(h:A.gb C none)(k:C.gb E (some r))(a:A.heap.size<=r):A.gb E none:=h.andThen k (λj e=>by cases e;exact .inl a)
def qgv{ll f:List Int}{b:Option qj5}{c:Nat}{Q:qjf}{jC:Array qhC}{I:List (List Int)->(Nat->Prop)->qhy->Prop}{W:qhy}(cb:Cb W.heap.size f Q jC I)(d5:f.length<=1000)(hS:Jp ll f)(hI:qd 0 W.heap.size W (.slice b ll.length c) ll){G:Nat->Prop}(h0:I [] G W) :qiw Ya 82 #[.slice b ll.length c,.func (.func Q) #[] jC] W λe W'=>e=.returned (.bool false)/\∃G',I (yG f 0) G' W':=by
 obtain⟨d,g⟩:∃d,d=W.heap.size:=⟨_,rfl⟩;obtain⟨p,l⟩:∃p,p=(W.alloc (.cells #[.slice b ll.length c] 29)).alloc (.cells #[.func (.func Q) #[] jC] 51):=⟨_,rfl⟩;have s:W.gb p none:=by rw[l];exact(qhx _ _ none).trans (qhx _ _ none)
 have l1:p.heap[d]?=some (.cells #[.slice b ll.length c] 29 (0,0)):=by rw[l,g];exact qp (qhH W _)
 have e1:p.heap[d+1]?=some (.cells #[.func (.func Q) #[] jC] 51 (0,0)):=by
  rw[l];have:=qhH (W.alloc (.cells #[.slice b ll.length c] 29)) (.cells #[.func (.func Q) #[] jC] 51);rw[qi6,<- g] at this;exact this
 have U:p.heap.size=d+2:=by rw[l,qi6,qi6,g]
 have c1:p.cell? d=some (.slice b ll.length c):=q8 l1 rfl;have z1:=qj (o:=0) l1;have V:d<p.heap.size:=by omega
 have h9:=qhw ((hI.kept s).mono (qhz _) s.size);have⟨e9,A,p8,k5,g7,k7,HH⟩:=q6C l g U s l1 e1 h0;clear l g U s l1 e1 hI h0;go_enter Tp.x82,Tryz.ntmps82;go_upto_region 1 with(fail);rw[<- A,<- e9];go_upto_region 2 with(first
  | (go_at_call 135;refine(Zt _ _ _ _).mono ?_;rintro e w2 ⟨rfl,rfl⟩)
  | (go_at_call 134;refine(hS p.heap.size (.slice b ll.length c) _ (by simp) (by rw[kq];rfl) ((h9.alloc _).mono (qhz _) (by simp))).mono ?_;rintro e w2 ⟨v,rfl,M,D,r⟩;obtain⟨T,S,rfl,-,-⟩:=M.cell;have c2:=(((qhx p (.cells #[.slice b ll.length c] 29) none).trans r).cl c1);have z2:=(((qhx p (.cells #[.slice b ll.length c] 29) none).trans r).frozen_far _ V (by simp)).trans z1;have h8:=qhw M;have P:=qhw ((qhx p (.cells #[.slice b ll.length c] 29) none).trans r);have p9:=qhw D;clear M D r))
 obtain⟨O,u⟩:∃O,O=w2.setCell d (.slice T f.length S):=⟨_,rfl⟩;rw[<- u];have i:=qf w2 d 0 (.slice T f.length S);rw[<- u] at i;have l4:O.heap[d]?=some (.cells #[.slice T f.length S] 29 (0,0)):=by rw[u,qg (bk P g7)];rfl
 have e4:=blk (X:=d+1) i (by simp) (bk P k7);have i4:=(h8.kept i (λR e=>by cases e;left;rw[qi6];omega)).mono (show W.heap.size<=_ by rw[qi6];have:=A.out;omega) i.size;have g4:W.gb O none:=Q0 (k5.trans P) i (by rw[A];exact qhz _);have⟨g6,k6,b6,b7⟩:=zI l4 e4 i4 g4;clear u i l4 e4 i4 g4 c1 z1 c2 z2;have n2:∀(a:qj5) (fn:Fn) (x y:Array qhC) (m:Mode) (w:qhy),(store a (.func fn x y) m).run Ya w=stored Ya w a (.func fn x y) m:=λa fn x y m w=>run_store _ w a _ m rfl;go_upto_region 4 with(fail);obtain⟨C,z⟩:∃C,C=O.heap.size:=⟨_,rfl⟩;obtain⟨N,t⟩:∃N,N=O.alloc (.cells #[.func (.func 136) #[] #[.pointer (some (d+1:Nat)),.pointer (some d),.pointer (some C)]] 151):=⟨_,rfl⟩;rw[<- z,<- t];have j:O.gb N none:=by rw[t];exact qhx _ _ none
 have p5:N.heap[C]?=some (.cells #[.func (.func 136) #[] #[.pointer (some (d+1:Nat)),.pointer (some d),.pointer (some C)]] 151 (0,0)):=by rw[t,z];exact qhH _ _
 have q:∀k,W.heap.size<=k->¬ G k:=λk hk h=>by have:=cb.hlt _ _ _ HH k h;omega
 have g:=A.out;have a8:W.heap.size<=C:=by rw[z];exact b7.size
 have H:Yy W.heap.size (d+1) d C T S f Q jC G N:=by
  refine⟨bk j k6,bk j g6,⟨(b6.kept j).mono (qhz _) j.size,λB o n c' e d6 hg=>?_⟩,p5,⟨by omega,by omega,a8⟩,q _ (by omega),q _ (by omega),q _ a8⟩;have⟨base,p3,e',hl,hr⟩:=b6.out;cases e';have⟨B',o',cs,fr,e1,e2,e3,e4,e5⟩:=hr d6;cases e;cases e1;exact q _ e2 hg
 have a7:=cb.hI _ _ _ _ HH (b7.trans j);have⟨g5,g9⟩:=qF H a7;have m8:IntKind.i64.wrap ((f.length:Int)+1)=((f.length+1:Nat):Int):=by rw[qiv _ (by omega)];rfl
 have cL:N.cell? d=some (.slice T f.length S):=q8 H.ls rfl;clear H a7 p5 j t z q g;go_wp2;go_loopw [14] (λiv wr=>∃k:Nat,iv=.int .i64 k/\k<=f.length+1/\∃Gk L,yG f 0=L++yG f k/\I L Gk wr/\Bod W.heap.size W.heap.size G Gk N wr) (λiv _=>(f.length+1 - qj7 iv).toNat)
 case atStart=>exact⟨0,rfl,by omega,G,[],rfl,g9,jX (qi2 _ _)⟩
 case round=>
  obtain⟨k,rfl,hk,Gk,L,hL,a6,F⟩:=hrel;have a9:=qhw (g5.bod F);have⟨HL,b0,k8⟩:=qY hL a6 F;clear hL a6 F cL;have c1:wr.cell? C=some (.func (.func 136) #[] #[.pointer (some (d+1:Nat)),.pointer (some d),.pointer (some C)]):=q8 a9.gr rfl;by_cases Y:k<f.length+1
  ·have l8:(k:Int)<(f.length:Int)+1:=by omega
   have m9:IntKind.i64.wrap ((k:Int)+1)=((k+1:Nat):Int):=by rw[qiv _ (by omega)];rfl
   have Z:=qf4 cb d5 k [] 0 none 0 wr Gk L (by simp;omega) (by omega) (by simp) a9 ⟨qd.nil _ _ _,λB o n c e=>by cases e⟩ (.inr rfl) (by simp) ⟨_,by rw[HL,Jy Y]⟩ b0;have k0:=qhw Z;clear Z;go_wp2_with (go_at_call 136;refine(k0).mono ?_;rintro e w6 ⟨rfl,G6,d8,d7⟩);go_roundw
   case rel=>exact⟨k+1,by simp,by omega,G6,L++zR f k [] 0,by rw[HL,Jy Y,qkt],d8,k8.trans d7⟩
   case measure=>simp[qj7];omega
  ·obtain rfl:k=f.length+1:=by omega
   go_wp2;go_ret;exact⟨rfl,Gk,by rw[HL,q44 (qhz _),qo3];exact b0⟩
end
section
open Go.RowKit
def q2f(x b:List Int):Bool:=decide (QJ x b<0)
def q2e(g i f h:Nat)(d c:qhC)(a b:List Int)(w:qhy)(l:qd g i w d a)(k:qd f h w c b) :qiw Ya 99 #[d,c] w λe j=>e=.returned (.bool (q2f a b))/\w=j:=Ys g i f h d c a b w l k
def qhh(L:Nat)(s:Bool)(d c:qhC)(a x:List Int)(w b:qhy):Prop :=
 w.gb b (some L)/\b.heap[L]?=some (.cells #[.func (.func 99) #[] #[],if s=true/\q2f x a=false then d else c,.bool true] 108 (0,0))
def q8r(L:Nat)(s:Bool)(k g:qhC)(a x:List Int)(w:qhy)(c:w.heap[L]?=some (.cells #[.func (.func 99) #[] #[],k,.bool s] 108 (0,0)))(j:qd 0 w.heap.size w k a)(i:qd 0 w.heap.size w g x) :qiw Ya 103 #[.pointer (some L),g] w λe q=>e=.returned (.tuple #[])/\qhh L s k g a x w q:=by
 obtain⟨z,y,rfl,-,-⟩:=j.cell;obtain⟨f,d,rfl,-,-⟩:=i.cell;have v:w.cell? L=some (.func (.func 99) #[] #[]):=q8 c rfl;have u:w.cell? ⟨L,1,none⟩=some (.slice z a.length y):=q8 c rfl;have r:w.cell? ⟨L,2,none⟩=some (.bool s):=q8 c rfl;have B:w.frozen? ⟨L,1,none⟩=false:=qj c;have A:w.frozen? ⟨L,2,none⟩=false:=qj c;have⟨l,o,n⟩:=qY c j i;have C:=qhw (qie v (qie u r));clear c j i;go_enter Tp.x103,Tryz.ntmps103;cases s with
 | false=>
  go_wp2_with (fail);go_quiet (fail);go_wp2;go_end0;refine⟨rfl,((qi _ _ _).t (qf _ _ _ _)).t (qf _ _ _ _),?_⟩;rw[if_neg (by simp ),qg (show((w.drewN nq).setCell ⟨L,1,none⟩ (.slice f x.length d)).heap[L]?=some (.cells #[.func (.func 99) #[] #[],.slice f x.length d,.bool false] 108 (0,0)) by rw[qg (show(w.drewN nq).heap[L]?=_ from l)];rfl)];rfl
 | true=>
  cases hl:q2f x a with
  | true=>
   have b:=qhw hl;clear hl;go_wp2_with (fail);go_quiet (first | (go_at_call 99;refine qk7 ((q2e 0 w.heap.size 0 w.heap.size _ _ x a _ (n.kept (qi _ _ none)) (o.kept (qi _ _ none))).mono (λe p h=>⟨by rw[h.1,b],h.2.symm⟩))));go_wp2;go_end0;refine⟨rfl,((qi _ _ _).t (qf _ _ _ _)).t (qf _ _ _ _),?_⟩;rw[if_neg (by simp[b.out]),qg (show((w.drewN nq).setCell ⟨L,1,none⟩ (.slice f x.length d)).heap[L]?=some (.cells #[.func (.func 99) #[] #[],.slice f x.length d,.bool true] 108 (0,0)) by rw[qg (show(w.drewN nq).heap[L]?=_ from l)];rfl)];rfl
  | false=>
   have b:=qhw hl;clear hl;go_wp2_with (fail);go_quiet (first | (go_at_call 99;refine qk7 ((q2e 0 w.heap.size 0 w.heap.size _ _ x a _ (n.kept (qi _ _ none)) (o.kept (qi _ _ none))).mono (λe p h=>⟨by rw[h.1,b],h.2.symm⟩))));go_wp2;go_end0;refine⟨rfl,(qi _ _ _),?_⟩;rw[if_pos ⟨rfl,b⟩];exact l
def KW(l:List Int)(x:Int):Int:=if x∈l then((l.takeWhile λy=>y != x).length:Int) else -1
def qgt{l:List Int}{x:Int}{k:Nat}(h:l[k]?=some x)(b:∀i,i<k->l[i]?≠some x):(l.takeWhile λy=>y != x).length=k:=by
 induction l generalizing k with
 | nil=>simp at h
 | cons a t c=>
  cases k with
  | zero=>simp at h;subst h;simp
  | succ k=>
   have d:a≠x:=λe=>b 0 (by omega) (by simp[e]);rw[qnv (by simpa using d),qi3,c (by simpa using h) (λi f e=>b (i+1) (by omega) (by simpa using e))]
def qc8(b:Option qj5)(c:Nat)(l:List Int)(x:Int)(w:qhy)(F:(l.length:Int)<=1000000)(A:l≠[]->∃B o,b=some ⟨B,o,none⟩/\∀i,i<l.length->w.cell? ⟨B,o+i,none⟩=some (.int .i64 (l[i]?.getD 0))):qiw Ya 147 #[.slice b l.length c,x] w λe C=>e=.returned (.int .i64 (KW l x))/\w=C:=by
 have G:=qhw A;clear A;go_enter Tp.x147,Tryz.ntmps147;go_wp2;go_loopw [8] (λq wr=>∃k:Nat,q=.int .i64 k/\k<=l.length/\(∀i,i<k->l[i]?≠some x)/\w=wr) (λq _=>(l.length - qj7 q).toNat)
 case atStart=>exact⟨0,rfl,by omega,λi p=>by omega,rfl⟩
 case round=>
  obtain⟨k,rfl,H,j,rfl⟩:=hrel;have f:=qhw j;clear j;by_cases d:k<l.length
  ·obtain⟨B,o,rfl,n⟩:=G.out (by intro e;rw[e] at d;simp at d);obtain⟨y,r⟩:∃y,l[k]?=some y:=⟨_,qhG d⟩;have v:=n k d;rw[r] at v;simp only[qi0] at v;have z:(k:Int)<(l.length:Int):=by omega
   have s:=qhw r;clear n r;by_cases a:x=y
   ·subst a;have g:KW l x=(k:Int):=by
     unfold KW;rw[if_pos (qih s),qgt s f]
    have u:=qhw g;clear g;go_wp2;go_ret;exact⟨by rw[u];rfl,by first | rfl | trivial⟩
   ·have D:(x == y)=false:=by simpa using a
    have t:=qhw a;clear a;go_wp2;go_roundw
    case rel=>
     refine⟨k+1,by simp,by omega,λi p e=>?_,by first | rfl | trivial⟩;by_cases h:i=k
     ·subst h;rw[s] at e;cases e;exact t rfl
     ·exact f i (by omega) e
    case measure=>simp[qj7];omega
  ·obtain rfl:k=l.length:=by omega
   have g:KW l x=-1:=by
    unfold KW;rw[if_neg];intro hm;have⟨i,p⟩:=qp4 hm;exact f i (qic.1 p).1 p
   have u:=qhw g;clear g;go_wp2;go_ret;exact⟨by rw[u];rfl,by first | rfl | trivial⟩
attribute [local go_sem] q76 q3c
def qcB(B o f:Nat)(H:qid)(z:Array qhC)(N:Nat × Nat)(l:List Int)(w:qhy)(y:w.heap[B]?=some (.cells z H N))(v:∀i,i<l.length->z[o+i]?=some (.int .i64 (l[i]?.getD 0)))(I:l.length<=1000) :qiw Ya 84 #[.slice (some ⟨B,o,none⟩) l.length f] w λe r=>∃s,e=.returned s/\w.gb r none/\qd w.heap.size r.heap.size r s l:=by
 have⟨D,q,k,h,g⟩:=qk1 Tp.info3p;by_cases F:l=[]
 ·subst F;show qiw Ya 84 #[.slice (some ⟨B,o,none⟩) 0 f] w _;clear y v I;go_enter Tp.x84,qq7;go_wp2_with (at_builtin;(refine ql8 _ rfl _ _ 29 rfl w.heap.size 3 D _ 1 8 Tp.und29' q k h g rfl (by decide) (.slice (some w.heap.size) 0 0) 0 [] rfl ⟨rfl,.inr ⟨_,0,#[],rfl,qhz _,qhH _ _,qhz _,by decide,rfl,rfl⟩⟩ ⟨B,o,none⟩ 0 f [] rfl rfl (by intro j u b;simp at b) (by intro u b;simp at b) (by decide) (by omega) (by simp) ?_);intro s Q d a _;have A:=qhw d;have C:=qhw a;clear d a);go_ret;refine⟨_,rfl,(qhx _ _ none).andThen C (λj e=>.inl ?_),KU (n:=0) (by simpa using A.out) (by simp) (qhz _)⟩;simp[qiF] at e;omega
 have p:0<l.length:=qm9.2 F;have O:=qhw (show ∀j u,(l.map (qim .i64))[j]?=some u->z[o+j]?=some u from λj u b=>by
  rw[qjA] at b;cases hj:l[j]? with
  | none=>rw[hj] at b;cases b
  | some x=>
   rw[hj] at b;cases b;have t:=(qic.1 hj).1;have:=v j t;rw[hj] at this;exact this)
 have P:=qhw y;clear v y;go_enter Tp.x84,qq7;go_wp2_with (at_builtin;(refine qpo _ (by rfl) _ _ _ (by rfl) w.heap.size 3 D _ 1 8 Tp.und29' q k h g rfl (by omega) (.slice (some w.heap.size) 0 0) 0 [] (by rfl) ⟨by simp,.inr ⟨w.heap.size,0,#[],rfl,by omega,qhH w _,by omega,by unfold qlc;omega,by simp,by simp⟩⟩ ⟨B,o,none⟩ l.length f (l.map (qim .i64)) (by rfl) (by simp) (λj u b=>jI (q8 (qp P) (O j u b))) (by intro u b;simp at b;obtain⟨x,_,rfl⟩:=b;rfl) p (by unfold qlc;omega) (by omega) (by simp) (w.heap.size+1) (by simp) ?_);intro S G R c a M L;have C:=qhw a;have A:=qhw c;clear a c);go_ret;refine⟨_,rfl,(qhx _ _ none).andThen C (λj e=>.inl ?_),KU (n:=0+l.length) (by simpa using A.out) (by omega) (qhz _)⟩;simp[qiF] at e;omega
def zu(s:List Int):List Int:=s.takeWhile λy=>y != -1
def len5{s:List Int}(h:s.length=5):∃a b c d e,s=[a,b,c,d,e]:=by
 rcases s with _ | ⟨k,_ | ⟨j,_ | ⟨i,_ | ⟨g,_ | ⟨f,_ | ⟨l,t⟩⟩⟩⟩⟩⟩<;>simp at h;exact⟨k,j,i,g,f,rfl⟩
def q7p(s:List Int)(p:Int->Bool):s.take (s.takeWhile p).length=s.takeWhile p:=by
 induction s with
 | nil=>rfl
 | cons a t b=>
  by_cases h:p a=true
  ·rw[qnv h,qi3,List.take_succ_cons,b]
  ·rw[List.takeWhile_cons_of_neg h];rfl
def q1a(s:List Int)(p:Int->Bool):(s.takeWhile p).length<=s.length:=by
 rw[<- q7p s p,qkC];omega
def qfi{s:List Int}{x:Int}(h:x∉s):s.takeWhile (λy=>y != x)=s:=by
 induction s with
 | nil=>rfl
 | cons a t b=>
  rw[qnv (by simp at h ⊢;exact λe=>h.1 e.symm),b (by simp at h;exact h.2)]
def qc0(s:List Int)(G:s.length=5)(w:qhy):qiw Ya 113 #[A5 s] w λe b=>∃v,e=.returned v/\w.gb b none/\qd w.heap.size b.heap.size b v (zu s):=by
 obtain⟨j,q⟩:∃j,j=w.heap.size:=⟨_,rfl⟩;obtain⟨f,c⟩:∃f,f=w.alloc (.cells (s.map (qim .i64)).toArray 118):=⟨_,rfl⟩;have A:w.gb f none:=by rw[c];exact qhx _ _ none
 have o:f.heap[j]?=some (.cells (s.map (qim .i64)).toArray 118 (0,0)):=by rw[c,q];exact qhH _ _
 have l:∀i,i<s.length->(s.map (qim .i64)).toArray[i]?=some (.int .i64 (s[i]?.getD 0)):=λi u=>by simp[u]
 have z:∀a,f.gb a none->qiw Ya 147 #[.slice (some j) 5 5,.int .i64 (-1)] a λe b=>e=.returned (.int .i64 (KW s (-1)))/\a=b:=λa h=>by
  have:=qc8 (some ⟨j,0,none⟩) 5 s (-1) a (by omega) (λ_=>⟨j,0,rfl,λi u=>q8 (bk h o) (by rw[qib];exact l i u)⟩)
  rwa [G] at this
 obtain⟨n,x⟩:∃n,n=(zu s).length:=⟨_,rfl⟩;have S:n<=5:=by rw[x];have:=q1a s (λy=>y != -1);unfold zu;omega
 have B:∀a,f.gb a none->qiw Ya 84 #[.slice (some j) n 5] a λe b=>∃H,e=.returned H/\a.gb b none/\qd a.heap.size b.heap.size b H (zu s):=λa h=>by
  rw[x];refine qcB j 0 5 118 _ (0,0) (zu s) a (bk h o) (λi u=>?_) (by omega);rw[qib,l i (by omega)];unfold zu;rw[<- q7p s (λy=>y != -1),qjC (by unfold zu at u;exact u)]
 have g:(KW s (-1)=(n:Int)/\(-1:Int)∈s)\/(KW s (-1)=-1/\n=5):=by
  by_cases hm:(-1:Int)∈s
  ·left;refine⟨?_,hm⟩;unfold KW;rw[if_pos hm,x];rfl
  ·right;refine⟨by unfold KW;rw[if_neg hm],?_⟩;rw[x];unfold zu;rw[qfi hm,G]
 have⟨r,D,d,C,F⟩:=Zc z B A c q;clear z B A o c q l x;generalize KW s (-1)=ix at g r;have L:A5 s=.agg (s.map (qim .i64)).toArray:=rfl;rw[L];clear L;obtain⟨Q,P,O,N,M,rfl⟩:=len5 G;rcases g with⟨rfl,-⟩ | ⟨rfl,rfl⟩
 ·go_enter Tp.x113,Tryz.ntmps113;go_upto_region 1 with(fail);rw[<- F,show w.alloc (.cells #[Q,P,O,N,M] 118)=f from C.symm];have T:(0:Int)<=(n:Int):=by omega
  have I:(n:Int)<=5:=by omega
  go_wp2_with (first
   | (go_at_call 147;refine(r _ (qi2 _ _)).mono ?_;rintro e a ⟨rfl,rfl⟩)
   | (go_at_call 84;refine(D _ (qi2 _ _)).mono ?_;rintro e R ⟨v,rfl,k,p⟩))
  go_ret;exact⟨_,rfl,d.t k,p.mono d.size (qhz _)⟩
 ·go_enter Tp.x113,Tryz.ntmps113;go_upto_region 1 with(fail);rw[<- F,show w.alloc (.cells #[Q,P,O,N,M] 118)=f from C.symm];go_wp2_with (first
   | (go_at_call 147;refine(r _ (qi2 _ _)).mono ?_;rintro e a ⟨rfl,rfl⟩)
   | (go_at_call 84;refine(D _ (qi2 _ _)).mono ?_;rintro e R ⟨v,rfl,k,p⟩))
  go_ret;exact⟨_,rfl,d.t k,p.mono d.size (qhz _)⟩
def zW(l:List Int):List Int:=l++qs6 (5 - l.length) (-1)
def Zw{l:List Int}(h:l.length<=5):(zW l).length=5:=by simp[zW];omega
def Y1(lo hi:Nat)(v:qhC)(l:List Int)(w:qhy)(hI:qd lo hi w v l)(hl:l.length<=5):qiw Ya 112 #[v] w λe w'=>e=.returned (A5 (zW l))/\w.gb w' none:=by
 obtain⟨b,c,rfl,d8,hc⟩:=hI.cell;have HC:=qhw hc;have F:(Ya.info? 3).map (·.size)=some 1:=by kernel_rfl
 obtain⟨R,O⟩:∃R,R=w.heap.size:=⟨_,rfl⟩;clear hc hI;go_enter Tp.x112,Tryz.ntmps112;go_upto_region 2 with(fail);obtain⟨r,n⟩:∃r,r=w.alloc (.cells #[.int .i64 0,.int .i64 0,.int .i64 0,.int .i64 0,.int .i64 0] 118):=⟨_,rfl⟩;obtain⟨g,i⟩:∃g,g=r.alloc (.cells #[.int .i64 (-1),.int .i64 (-1),.int .i64 (-1),.int .i64 (-1),.int .i64 (-1)] 118):=⟨_,rfl⟩;rw[<- O,show(w.alloc (.cells #[.int .i64 0,.int .i64 0,.int .i64 0,.int .i64 0,.int .i64 0] 118)).alloc (.cells #[.int .i64 (-1),.int .i64 (-1),.int .i64 (-1),.int .i64 (-1),.int .i64 (-1)] 118)=g by rw[i,n]];have y:r.heap.size=R+1:=by rw[n,qi6,O]
 have G:g.heap.size=R+2:=by rw[i,qi6,y]
 have M:w.gb r none:=by rw[n];exact qhx _ _ none
 have z:r.gb g none:=by rw[i];exact qhx _ _ none
 have I:r.heap[R]?=some (.cells #[.int .i64 0,.int .i64 0,.int .i64 0,.int .i64 0,.int .i64 0] 118 (0,0)):=by rw[n,O];exact qhH _ _
 have N:g.heap[R+1]?=some (.cells ([.int .i64 (-1),.int .i64 (-1),.int .i64 (-1),.int .i64 (-1),.int .i64 (-1)]:List qhC).toArray 118 (0,0)):=by rw[i,<- y];exact qhH _ _
 have H:=bk z I;have⟨C,Q⟩:=qF N H;have f:=qhw (M.t z);have⟨e8,HR⟩:=qF G O;clear n i y M z I N H G O;have T:=Q.out;obtain⟨D,e6,d,p⟩:∃D,(qpt #[29,29] 3 #[.slice (some (R+1:Nat)) 5 5,.slice b l.length c]).run Ya g=.ok (goInt l.length) D/\D.heap[R+1]?=some (.cells ((zW l).map (qim .i64)).toArray 118 (0,0))/\Below (R+1) g D:=by
  by_cases h0:l=[]
  ·subst h0;exact⟨g,run_copy_none (P:=Ya) g 29 29 3 3 _ _ 5 5 0 c Tp.und29' F rfl,by rw[C];rfl,qoa _ _⟩
  ·obtain⟨B,o,rfl,-,e7,-,A⟩:=HC.out h0;have Z:=run_copy_row (P:=Ya) g 29 29 3 3 (R+1) 0 5 5 ⟨B,o,none⟩ l.length c _ 118 (l.map (qim .i64)) Tp.und29' F C (by rw[qlB];show l.length=min l.length 5;omega) (λj v L=>by
    rw[qjA] at L;cases hx:l[j]? with
    | none=>rw[hx] at L;cases L
    | some x=>
     rw[hx] at L;cases L;have h1:=A j (qic.1 hx).1;rw[hx] at h1;exact jI (f.cl h1)) (by simp;omega) (by intro u Y;simp at Y;obtain⟨x,_,rfl⟩:=Y;rfl)
   rw[qlB] at Z;refine⟨_,Z,?_,below_setRow (qoa _ _) (qhz _) _⟩;rw[setRow_heap g (R+1) _ _ 118 _ C];unfold zW;have:∀k,k<=5->([.int .i64 (-1),.int .i64 (-1),.int .i64 (-1),.int .i64 (-1),.int .i64 (-1)]:List qhC).drop k=(qs6 (5 - k) (-1)).map (qim .i64):=by
    intro k hk;obtain rfl | rfl | rfl | rfl | rfl | rfl:k=0\/k=1\/k=2\/k=3\/k=4\/k=5:=by omega
    all_goals rfl
   simp[this _ hl]
 have⟨a0,a1,a2,a3,a4,W⟩:=len5 (Zw hl);rw[W] at d;have E5:=qhw W;have a:=(p.block R (by omega)).t Q;have c0:=q8 d (o:=0) rfl;have c1:=q8 d (o:=1) rfl;have c2:=q8 d (o:=2) rfl;have c3:=q8 d (o:=3) rfl;have c4:=q8 d (o:=4) rfl;have d0:=q8 a (o:=0) rfl;have d1:=q8 a (o:=1) rfl;have d2:=q8 a (o:=2) rfl;have d3:=q8 a (o:=3) rfl;have d4:=q8 a (o:=4) rfl;have z0:=qj a (o:=0);have z1:=qj a (o:=1);have z2:=qj a (o:=2);have z3:=qj a (o:=3);have z4:=qj a (o:=4);have⟨X,q⟩:=qF a p;clear a p W T;go_wp2;obtain⟨S,s⟩:∃S,S=((((D.setCell R (.int .i64 a0)).setCell ⟨R,1,none⟩ (.int .i64 a1)).setCell ⟨R,2,none⟩ (.int .i64 a2)).setCell ⟨R,3,none⟩ (.int .i64 a3)).setCell ⟨R,4,none⟩ (.int .i64 a4):=⟨_,rfl⟩;rw[<- s];have hrf:S.heap[R]?=some (.cells #[a0,a1,a2,a3,a4] 118 (0,0)):=by
  rw[s,qg (qg (qg (qg (qg X))))];rfl
 have V:w.gb D none:=⟨q.os.trans f.os,q.tape.trans f.tape,q.output.trans f.output,qi1 f.size q.size,λk hk _=>(q.block k (by have:=HR.out;omega)).t (f.block k hk (by simp))⟩;have U:w.gb S none:=by
  rw[s];have h:=HR.out;exact Q0 (Q0 (Q0 (Q0 (Q0 V (qf _ _ _ _) (by omega)) (qf _ _ _ _) (by omega)) (qf _ _ _ _) (by omega)) (qf _ _ _ _) (by omega)) (qf _ _ _ _) (by omega)
 have e0:=q8 hrf (o:=0) rfl;have e1:=q8 hrf (o:=1) rfl;have e2:=q8 hrf (o:=2) rfl;have e3:=q8 hrf (o:=3) rfl;have e4:=q8 hrf (o:=4) rfl;refine qjw (v:=A5 (zW l)) ?_ rfl ⟨rfl,U⟩;rw[E5];simp[qkh,Tryz.results112,go_sem,qiA,hrf,A5]
end
section
open Go.RowKit
structure xx where
 Bl:Nat
 By:Nat
 Bn:Nat
 Bu:Nat
 Bg:Nat
 Bp:Nat
 n1:Nat
 l:Nat
 ws:List Int
 lb:Option qj5
 lc:Nat
 J:List (List Int × qhC)->(Nat->Prop)->qhy->Prop
 Jx:List (List Int × qhC)->(Nat->Prop)->qhy->Prop
 T:List (List Int)
def Pfx(X:xx)(pre:List (List Int × qhC))(L:List (List Int)):Prop:=∃t,X.T=pre.map qma++(L++t)
def xpI(x:List Int × qhC)(A:qhy):Prop:=qd 0 A.heap.size A x.2 x.1
def xpO(a:List Int)(x:List Int × qhC)(A:qhy):Prop:=xpI x A/\x.1.length=a.length/\x.1.Nodup/\(∀y∈x.1,y∈a)/\(x.1≠[]\/x.2=.slice none 0 0)
structure Yz(X:xx):Prop where
 hlt:∀s G A,X.J s G A->∀k,G k->k<A.heap.size
 bl:X.Bl<X.n1
 b1:X.n1<=X.By
 b2:X.By<X.Bn
 b3:X.Bn<X.Bu
 b4:X.Bu<X.Bg
 b5:X.Bg<X.Bp
 hJ:∀s G A C,X.J s G A->Stp X.n1 X.Bl G A C->X.J s G C
 hJx:∀s G A C,X.Jx s G A->Stp X.n1 X.Bl G A C->X.Jx s G C
 five:∀x∈X.ws,0<=x/\x<5
 nd:X.ws.Nodup
 len:X.ws.length<=5
 hY:∀m pre G x A,X.J pre G A->xpO X.ws x A->Pfx X pre [x.1]->YieldAt Fence.wide m Ya X.l #[x.2] A λe C=>
   ∃G',(e=.returned (.bool true)/\X.J (pre++[x]) G' C/\Bod X.n1 X.Bl G G' A C)\/(e=.returned (.bool false)/\X.Jx (pre++[x]) G' C/\Bod X.n1 X.Bl G G' A C)
def ptA(b:Nat):qhC:=.pointer (some b)
structure It3(X:xx)(p:List Int)(G:Nat->Prop)(W:qhy)(lb:Option qj5)(lc:Nat)(nv:qhC):Prop where
 ls:W.heap[X.Bl]?=some (.cells #[.slice lb X.ws.length lc] 29 (0,0))
 li:qd X.n1 W.heap.size W (.slice lb X.ws.length lc) X.ws
 lf:∀B o,lb=some ⟨B,o,none⟩->X.ws≠[]->¬ G B
 yl:W.heap[X.By]?=some (.cells #[.func (.yield X.l) #[] #[]] 51 (0,0))
 us:W.heap[X.Bu]?=some (.cells #[.int .u8 (qW p:Nat)] 130 (0,0))
 gr:W.heap[X.Bg]?=some (.cells #[.func (.func 154) #[] #[ptA X.Bn,ptA X.Bl,ptA X.By,ptA X.Bu,ptA X.Bp]] 31 (0,0))
 pu:W.heap[X.Bp]?=some (.cells #[.func (.func 150) #[] #[ptA X.Bn,ptA X.Bu,ptA X.Bg]] 82 (0,0))
 nw:W.heap[X.Bn]?=some (.cells #[nv] 29 (0,0))
 no:W.ownsRow X.n1 3 1 nv p.length (p.map (qim .i64))
 nr:∀g,nv.ownBlock=some g->¬ G g/\∀B o,lb=some ⟨B,o,none⟩->X.ws≠[]->B≠g
 nn:p=[]->X.ws=[]->nv=.slice none 0 0
 nf:¬ G X.Bl/\¬ G X.By/\¬ G X.Bn/\¬ G X.Bu/\¬ G X.Bg/\¬ G X.Bp
def q3s(X:xx)(p:List Int)(G:Nat->Prop)(W:qhy):Prop:=∃a,It3 X p G W X.lb X.lc a
def zB(a:List Int):Nat->List Int->List (List Int)
 | 0,p=>[p]
 | m+1,p=>a.flatMap λn=>if n∈p then[] else zB a m (p++[n])
def qda(X:xx)(W:qhy)(k:Nat):Prop:=∃v a b,W.heap[X.Bn]?=some (.cells #[v] a b)/\v.ownBlock=some k
structure ItR(X:xx)(G G':Nat->Prop)(A C:qhy):Prop where
 tape:C.tape=A.tape
 size:A.heap.size<=C.heap.size
 keep:∀k,k<A.heap.size->(X.n1<=k\/k=X.Bl)->¬ G k->k≠X.Bn->k≠X.Bu->¬ qda X A k->C.heap[k]?=A.heap[k]?
 fp:∀k,G' k->G k\/A.heap.size<=k
 row:∀k,qda X C k->qda X A k\/A.heap.size<=k
def ItR.refl(X:xx)(G:Nat->Prop)(A:qhy):ItR X G G A A:=⟨rfl,qhz _,λ_ _ _ _ _ _ _=>rfl,λ_ h=>.inl h,λ_ h=>.inl h⟩
def ItR.trans{X:xx}{G n c:Nat->Prop}{A C E:qhy}(h:ItR X G n A C)(k:ItR X n c C E):ItR X G c A E :=
 ⟨k.tape.trans h.tape,qi1 h.size k.size,λj a d f l i g=>(k.keep j (qia a h.size) d (λe=>(h.fp j e).elim f (by omega)) l i (λe=>(h.row j e).elim g (by omega))).t (h.keep j a d f l i g),
  λj a=>(k.fp j a).elim (h.fp j) (λe=>.inr (qi1 h.size e)),λj a=>(k.row j a).elim (h.row j) (λe=>.inr (qi1 h.size e))⟩
def RgB(X:xx)(p:List Int)(L:List (List Int))(pre:List (List Int × qhC))(G:Nat->Prop)(W:qhy)(b:Bool)(c:qhy):Prop :=
 ∃d,q3s X p d c/\ItR X G d W c/\(if b=true then ∃a,a.map qma=L/\X.J (pre++a) d c else ∃a t,L=a.map qma++t/\X.Jx (pre++a) d c)
def Rg(X:xx)(p:List Int)(L:List (List Int))(pre:List (List Int × qhC))(G:Nat->Prop)(W:qhy)(e:Ending)(a:qhy):Prop:=∃b,e=.returned (.bool b)/\RgB X p L pre G W b a
def qz{w:qhy}{k:Nat}{o:Obj}(h:w.heap[k]?=some o):k<w.heap.size:=(qhB.1 h).1
def kF{w:qhy}{b n:Nat}{v:qhC}{d:List qhC}(h:w.ownsRow b 3 1 v n d){g:Nat}(c:v.ownBlock=some g):b<=g/\∃j,w.heap[g]?=some (.cells j 3 (0,0)):=by
 rcases h.2 with⟨rfl,_⟩ | ⟨f,k,i,rfl,e,a,_⟩
 ·simp[qiF] at c
 ·obtain rfl:f=g:=by simpa[qiF] using c
  exact⟨e,_,a⟩
def JO{d:Nat}{A C:qhy}{b:Option qj5}{n f:Nat}{l:List Int}(h:qd d A.heap.size A (.slice b n f) l)(v:A.heap.size<=C.heap.size)(k:∀B o,b=some ⟨B,o,none⟩->l≠[]->C.heap[B]?=A.heap[B]?):qd d C.heap.size C (.slice b n f) l:=by
 obtain⟨base,c,e,j,i⟩:=h;refine⟨base,c,e,j,λa=>?_⟩;have⟨B,o,u,p,g,s,w,r,q⟩:=i a;cases e;exact⟨B,o,u,p,g,s,by omega,(k B o g a).t r,q⟩
def Ky{e:Nat}{A C:qhy}{v:qhC}{n:Nat}{d:List qhC}(h:A.ownsRow e 3 1 v n d)(i:∀g,v.ownBlock=some g->C.heap[g]?=A.heap[g]?):C.ownsRow e 3 1 v n d:=by
 obtain⟨l,a⟩:=h;refine⟨l,?_⟩;rcases a with a | ⟨g,c,b,rfl,k,j,f⟩
 ·exact .inl a
 ·exact .inr ⟨g,c,b,rfl,k,(i g (by simp[qiF])).t j,f⟩
def KM{X:xx}{p:List Int}{G:Nat->Prop}{W:qhy}{d:Option qj5}{i:Nat}{g:qhC}(h:It3 X p G W d i g){B o:Nat}(e:d=some ⟨B,o,none⟩)(a:X.ws≠[]):X.n1<=B/\B<W.heap.size/\∃c b,W.heap[B]?=some (.cells c 3 b):=by
 have⟨base,r,q,t,j⟩:=h.li;cases q;have⟨v,s,c,b,f,n,l,k,u⟩:=j a;rw[e] at f;cases f;exact⟨n,l,c,b,k⟩
def It3.body{X:xx}(O:Yz X){p:List Int}{G j:Nat->Prop}{A C:qhy}{s:Option qj5}{r:Nat}{q:qhC}(h:It3 X p G A s r q)(b:Bod X.n1 X.Bl G j A C):It3 X p j C s r q/\ItR X G j A C:=by
 have I:=O.b1;have S:=O.b2;have R:=O.b3;have Q:=O.b4;have P:=O.b5;have a:∀k,k<A.heap.size->¬ G k->¬ j k:=λk i l e=>(b.fp k e).elim l (by omega);have D:=b.keep _ (qz h.ls) (.inr rfl) h.nf.1;have x:=b.keep _ (qz h.yl) (.inl I) h.nf.2.1;have n:=b.keep _ (qz h.nw) (.inl (by omega)) h.nf.2.2.1;have y:=b.keep _ (qz h.us) (.inl (by omega)) h.nf.2.2.2.1;have F:=b.keep _ (qz h.gr) (.inl (by omega)) h.nf.2.2.2.2.1;have z:=b.keep _ (qz h.pu) (.inl (by omega)) h.nf.2.2.2.2.2;refine⟨⟨D.trans h.ls,JO h.li b.size λB o e c=>?_,λB o e c=>?_,x.t h.yl,y.t h.us,F.t h.gr,z.t h.pu,n.t h.nw,Ky h.no λg e=>?_,λg e=>⟨?_,(h.nr g e).2⟩,h.nn,
  a _ (qz h.ls) h.nf.1,a _ (qz h.yl) h.nf.2.1,a _ (qz h.nw) h.nf.2.2.1,a _ (qz h.us) h.nf.2.2.2.1,a _ (qz h.gr) h.nf.2.2.2.2.1,a _ (qz h.pu) h.nf.2.2.2.2.2⟩,
  b.tape,b.size,λk i H l _ _ _=>b.keep k i H l,b.fp,λk i=>?_⟩
 ·have⟨f,d,_⟩:=KM h e c;exact b.keep B d (.inl f) (h.lf B o e c)
 ·have⟨f,d,_⟩:=KM h e c;exact a B d (h.lf B o e c)
 ·have⟨f,N,d⟩:=kF h.no e;exact b.keep g (qz d) (.inl f) (h.nr g e).1
 ·have⟨f,N,d⟩:=kF h.no e;exact a g (qz d) (h.nr g e).1
 ·obtain⟨v,w,L,u,M⟩:=i;rw[n] at u;exact .inl ⟨v,w,L,u,M⟩
def It3.push{X:xx}(O:Yz X){p:List Int}{G:Nat->Prop}{A E C:qhy}{W:Option qj5}{V:Nat}{r:qhC}(h:It3 X p G A W V r)(F:∀k,G k->k<A.heap.size){n:Int}{g' cap:Nat}(b:A.gb E r.ownBlock)(j:E.ownsRow X.n1 3 1 (.slice (some g') (p.length+1) cap) (p.length+1) (p.map (qim .i64)++[.int .i64 n]))(f:r.ownBlock=some g'\/A.heap.size<=g')(Q:C.os=E.os)(y:C.tape=E.tape)(z:C.output=E.output)(M:C.heap=((E.setCell X.Bn (.slice (some g') (p.length+1) cap)).setCell X.Bu (.int .u8 (qW (p++[n]):Nat))).heap) :It3 X (p++[n]) G C W V (.slice (some g') (p.length+1) cap)/\Stp X.n1 X.Bl G A C/\ItR X G G A C/\∀k,k≠X.Bn->k≠X.Bu->C.heap[k]?=E.heap[k]?:=by
 have h1:=O.b1;have h2:=O.b2;have h3:=O.b3;have h4:=O.b4;have h5:=O.b5;have h0:=O.bl;have d:∀{k:Nat} {o:Obj},A.heap[k]?=some o->(∀c,o≠.cells c 3 (0,0))->some k≠r.ownBlock:=λ{k o} i R e=>by
  have⟨_,c,s⟩:=kF h.no e.symm;rw[i] at s;exact R c (qkH s)
 have el:=(b.block _ (qz h.ls) (d h.ls (λc e=>by cases e))).t h.ls;have ey:=(b.block _ (qz h.yl) (d h.yl (λc e=>by cases e))).t h.yl;have en:=(b.block _ (qz h.nw) (d h.nw (λc e=>by cases e))).t h.nw;have Z:=(b.block _ (qz h.us) (d h.us (λc e=>by cases e))).t h.us;have eg:=(b.block _ (qz h.gr) (d h.gr (λc e=>by cases e))).t h.gr;have ep:=(b.block _ (qz h.pu) (d h.pu (λc e=>by cases e))).t h.pu;have a:∀k,k≠X.Bn->k≠X.Bu->C.heap[k]?=E.heap[k]?:=λk w u=>by
  rw[M];exact(qji _ _ _ k (λe=>u e)).t (qji _ _ _ k (λe=>w e))
 have cn:C.heap[X.Bn]?=some (.cells #[.slice (some g') (p.length+1) cap] 29 (0,0)):=by
  rw[M,qji _ _ _ X.Bn (λe=>by have U:X.Bn=X.Bu:=e;omega),qg en];rfl
 have T:(E.setCell X.Bn (.slice (some g') (p.length+1) cap)).heap[X.Bu]?=some (.cells #[.int .u8 (qW p:Nat)] 130 (0,0)):=(qji _ _ _ X.Bu (λe=>by have U:X.Bu=X.Bn:=e;omega)).t Z;have cu:C.heap[X.Bu]?=some (.cells #[.int .u8 (qW (p++[n]):Nat)] 130 (0,0)):=by
  rw[M,qg T];rfl
 have q:C.heap.size=E.heap.size:=by rw[M];simp[qki]
 have P:Stp X.n1 X.Bl G A C:=⟨Q.trans b.os,y.t b.tape,z.t b.output,by rw[q];exact b.size,λk i l=>by
  have w:k≠X.Bn:=by rintro rfl;exact l.elim (λl=>by omega) h.nf.2.2.1
  have u:k≠X.Bu:=by rintro rfl;exact l.elim (λl=>by omega) h.nf.2.2.2.1
  rw[a k w u];refine b.block k i λe=>?_;have⟨b1,_⟩:=kF h.no e.symm;rcases l with l | l
  ·omega
  ·exact(h.nr k e.symm).1 l⟩
 have I:X.n1<=g'/\∃c,E.heap[g']?=some (.cells c 3 (0,0)):=kF j (by simp[qiF]);obtain⟨Y,b9,H⟩:=I;have D:∀{k:Nat} {c:Array qhC} {L:qid},E.heap[k]?=some (.cells c L (0,0))->L≠3->g'≠k:=λ{k c L} i ht e=>by
  rw[<- e,H] at i;cases i;exact ht rfl
 have gn:=D en (by decide);have gu:=D Z (by decide);refine⟨⟨(a _ (by omega) (by omega)).t el,JO h.li (by rw[q];exact b.size) λB o e x=>?_,h.lf,(a _ (by omega) (by omega)).t ey,cu,(a _ (by omega) (by omega)).t eg,(a _ (by omega) (by omega)).t ep,cn,?_,λg e=>?_,λe=>by simp at e,
  h.nf⟩,P,
  ⟨y.t b.tape,by rw[q];exact b.size,λk i hn S w u k3=>?_,λk i=>.inl i,λk i=>?_⟩,a⟩
 ·have⟨b1,b2,c,fr,N⟩:=KM h e x;rw[a B (λe=>?_) (λe=>?_)]
  ·exact b.block B b2 λU=>(h.nr B U.symm).2 B o e x rfl
  ·subst e;rw[h.nw] at N;cases N
  ·subst e;rw[h.us] at N;cases N
 ·rw[qjm,qk0];exact Ky j λg e=>a g (by
   obtain rfl:g'=g:=by simpa[qiF] using e
   exact gn) (by
   obtain rfl:g'=g:=by simpa[qiF] using e
   exact gu)
 ·obtain rfl:g'=g:=by simpa[qiF] using e
  refine⟨λS=>?_,λB o e x s=>?_⟩
  ·rcases f with f | f
   ·exact(h.nr _ f).1 S
   ·exact absurd (F _ S) (by omega)
  ·have⟨b1,b2,_⟩:=KM h e x;rcases f with f | f
   ·exact(h.nr _ f).2 B o e x s
   ·omega
 ·rw[a k w u];exact b.block k i λe=>k3 ⟨r,_,_,h.nw,e.symm⟩
 ·obtain⟨v,L,fr,e1,s⟩:=i;rw[cn] at e1;cases e1;obtain rfl:g'=k:=by simpa[qiF] using s
  rcases f with f | f
  ·exact .inl ⟨r,_,_,h.nw,f⟩
  ·exact .inr f
def q4o{w:qhy}{b k:Nat}{v:qhC}{c:List qhC}{y:qhC}(h:w.ownsRow b 3 1 v (k+1) (c++[y])):∃g a,v=.slice (some ⟨g,0,none⟩) (k+1) a/\k+1<=a/\w.ownsRow b 3 1 (.slice (some ⟨g,0,none⟩) k a) k c:=by
 obtain⟨p,o⟩:=h;rcases o with⟨_,q⟩ | ⟨g,a,d,rfl,n,j,l,hm,f,e⟩
 ·omega
 ·have i:c.length=k:=by simp at p;omega
  refine⟨g,a,rfl,l,by simpa using i,.inr ⟨g,a,d,rfl,n,j,by omega,hm,f,?_⟩⟩;have:=congrArg (List.take (k*1)) e;rw[List.take_take,qqc (by omega)] at this;rw[this,List.take_left' (by omega)]
def It3.pop{X:xx}(O:Yz X)(D:X.ws≠[]){p:List Int}{G:Nat->Prop}{A C:qhy}{Q:Option qj5}{P:Nat}{g b:Nat}{n:Int}(h:It3 X (p++[n]) G A Q P (.slice (some g) (p.length+1) b))(Z:Popped X.Bn X.Bu (some ⟨g,0,none⟩) p.length b (qW p) A C) :It3 X p G C Q P (.slice (some g) p.length b)/\Stp X.n1 X.Bl G A C/\ItR X G G A C:=by
 obtain⟨H,j,l,s⟩:=Z;have h1:=O.b1;have h2:=O.b2;have h3:=O.b3;have h4:=O.b4;have h5:=O.b5;have h0:=O.bl;have a:∀k,k≠X.Bn->k≠X.Bu->C.heap[k]?=A.heap[k]?:=λk z x=>by
  rw[s];exact(qji _ _ _ k (λe=>x e)).t (qji _ _ _ k (λe=>z e))
 have S:C.heap[X.Bn]?=some (.cells #[.slice (some g) p.length b] 29 (0,0)):=by
  rw[s,qji _ _ _ X.Bn (λe=>by have e':X.Bn=X.Bu:=e;omega),qg h.nw];rfl
 have M:(A.setCell X.Bn (.slice (some g) p.length b)).heap[X.Bu]?=some (.cells #[.int .u8 (qW (p++[n]):Nat)] 130 (0,0)):=(qji _ _ _ X.Bu (λe=>by have e':X.Bu=X.Bn:=e;omega)).t h.us;have cu:C.heap[X.Bu]?=some (.cells #[.int .u8 (qW p:Nat)] 130 (0,0)):=by
  rw[s,qg M];rfl
 have i:C.heap.size=A.heap.size:=by rw[s];simp[qki]
 have F:Stp X.n1 X.Bl G A C:=⟨H,j,l,by rw[i];exact qhz _,λk d f=>a k (λe=>by
  subst e;rcases f with f | f
  ·omega
  ·exact h.nf.2.2.1 f) (λe=>by
  subst e;rcases f with f | f
  ·omega
  ·exact h.nf.2.2.2.1 f)⟩
 have c:A.ownsRow X.n1 3 1 (.slice (some g) p.length b) p.length (p.map (qim .i64)):=by
  have I:=h.no;rw[qjm,qk0] at I;have⟨u,T,e,_,Y⟩:=q4o (y:=.int .i64 n) I;cases e;exact Y
 have⟨_,a6,L⟩:=kF c (g:=g) (by simp[qiF]);have q:∀{k:Nat} {N:Array qhC} {r:qid},A.heap[k]?=some (.cells N r (0,0))->r≠3->g≠k:=λ{k N r} d V e=>by
  rw[<- e,L] at d;cases d;exact V rfl
 have W:=h.nr g (by simp[qiF]);refine⟨⟨(a _ (by omega) (by omega)).t h.ls,JO h.li (by rw[i];exact qhz _) λB o e U=>?_,h.lf,(a _ (by omega) (by omega)).t h.yl,cu,(a _ (by omega) (by omega)).t h.gr,(a _ (by omega) (by omega)).t h.pu,S,Ky c λu e=>?_,λu e=>?_,λ_ e=>absurd e D,
  h.nf⟩,F,
  ⟨j,by rw[i];exact qhz _,λk d I hf z x k3=>a k z x,λk d=>.inl d,λk d=>?_⟩⟩
 ·have⟨b1,b2,N,fr,w⟩:=KM h e U;exact a B (λe=>by subst e;rw[h.nw] at w;cases w) (λe=>by subst e;rw[h.us] at w;cases w)
 ·obtain rfl:g=u:=by simpa[qiF] using e
  exact a g (q h.nw (by decide)) (q h.us (by decide))
 ·obtain rfl:g=u:=by simpa[qiF] using e
  exact W
 ·obtain⟨v,r,fr,R,e2⟩:=d;rw[S] at R;cases R;exact .inl ⟨_,_,_,h.nw,e2⟩
def q1H(p:List Int)(x:Int):qW (p++[x])=qW p ||| 2 ^ x.toNat:=by simp[qW]
def qfx(X:xx)(O:Yz X)(L:List (List Int))(p:List Int)(n:Nat)(hn:(n:Int)∈X.ws)(m9:(n:Int)∉p)(hp:∀x∈p,x∈X.ws)(s4:p.length+1<=5)(V:∀pre G A,X.J pre G A->Pfx X pre L->q3s X (p++[(n:Int)]) G A->qiw Ya 154 #[ptA X.Bn,ptA X.Bl,ptA X.By,ptA X.Bu,ptA X.Bp] A (Rg X (p++[(n:Int)]) L pre G A)) :∀pre G A,X.J pre G A->Pfx X pre L->q3s X p G A->qiw Ya 150 #[n,ptA X.Bn,ptA X.Bu,ptA X.Bg] A (Rg X p L pre G A):=by
 intro pre G A hJ n7 n8;obtain⟨nv,i⟩:=n8;have⟨i0,n4,m8,m7,m6⟩:=qk1 Tp.info3p;have d6:n<5:=by have:=O.five _ hn;omega
 have N:qW p<32:=vw p 5 λx hx=>by have:=O.five x (hp x hx);omega
 have e8:(qW p).testBit n=false:=by
  rw[Bool.eq_false_iff];intro h;have⟨y,hy,r9⟩:=(Qw p n).1 h;have:=O.five y (hp y hy);obtain rfl:y=(n:Int):=by omega
  exact m9 hy
 obtain⟨D,z,B,rfl⟩:=zi i.no;have t6:=O.b1;have t5:=O.b2;have t4:=O.b3;have t3:=O.b4;have t2:=O.b5;have⟨q,d,g7,Y,g,S⟩:=qT A (.cells #[n] 3);have b9:d.heap.size=A.heap.size+1:=by rw[Y,qi6]
 have u:=bk g i.nw;have s:=bk g i.us;have c8:=bk g i.gr;have s7:X.n1<=A.heap.size:=by have:=qz i.nw;omega
 have U:∀{k:Nat} {o:Obj},A.heap[k]?=some o->(∀cs,o≠.cells cs 3 (0,0))->some k≠(qiH D z B).ownBlock:=λ{k o} hk n2 e=>by
  have⟨_,cs,r⟩:=kF i.no e.symm;rw[hk] at r;exact n2 cs (qkH r)
 have k6:=qhw (U i.nw (λcs e=>by cases e));have k5:=qhw (U i.us (λcs e=>by cases e));have k0:=qhw (show some q≠(qiH D z B).ownBlock from λe=>by
  have⟨_,cs,r⟩:=kF i.no e.symm;have:=qz r;omega)
 have c1:d.cell? X.Bn=some (.slice D z B):=q8 u rfl;have g8:d.cell? X.Bu=some (.int .u8 (qW p:Nat)):=q8 s rfl;have c3:d.cell? q=some (.int .i64 n):=q8 S rfl;have c4:d.cell? X.Bg=some (.func (.func 154) #[] #[ptA X.Bn,ptA X.Bl,ptA X.By,ptA X.Bu,ptA X.Bp]):=q8 c8 rfl;have z1:=qj (o:=0) u;have z2:=qj (o:=0) s;have d8:X.Bn<d.heap.size:=qz u;have d7:X.Bu<d.heap.size:=qz s;have p9:=qhw (i.no.kept g (by cases(qiH D z B).ownBlock<;>simp));have⟨HI,h8,q3,p7,a8⟩:=Zc i S g Y g7;obtain⟨M,hM⟩:∃M:Int,M=(qW p:Nat):=⟨_,rfl⟩;obtain⟨M2,Z⟩:∃M2:Int,(qW p ||| 2 ^ n:Nat)=M2:=⟨_,rfl⟩;have c2:d.cell? X.Bu=some (.int .u8 M):=by rw[hM];exact g8
 have⟨HM,q0⟩:=qF hM Z;have j:∀w,qiw Ya 151 #[.int .u8 M,n] w λe w'=>e=.returned (.int .u8 M2)/\w=w':=λw=>by
  rw[hM,<- Z];exact ZQ _ n w N d6
 have⟨p6,h9⟩:=qF j b9;have s6:X.n1<=d.heap.size:=by omega
 clear i U S g Y g7 u s c8 g8 hM Z j b9;unfold ptA at *
 go_enter_defers Tp.x150,Tryz.ntmps150;go_upto_region 1 with(fail);rw[<- a8.out,<- p7.out];refine wp_region_noPanic ?_;refine qr 7 (λw'=>w'.cell? X.Bn=some (.slice D z B)/\w'.cell? X.Bu=some (.int .u8 M)/\w'.cell? q=some (.int .i64 n)) (by kernel_rfl) (by kernel_rfl) ⟨c1,c2,c3⟩ (λhHeld=>?_);simp only[qi3,qi7,qii,qiB,qib,qij,qik,qiq,qin,qi9];refine tk 0 (h:=tk 1 (h:=tk 4 (h:=tk 5 (h:=?_))));try go_frame
 refine rdc 2 λK hK=>?_;go_simp;refine hK.out _ _ (by first | exact s5 | exact hHeld | exact⟨(qhx _ _ none).cl hHeld.1,(qhx _ _ none).cl hHeld.2.1,(qhx _ _ none).cl hHeld.2.2⟩) (λhHeld=>?_);refine rdc 3 λK hK=>?_;refine qn0 _ (by rfl) _ _ _ (by rfl) X.n1 3 i0 _ 1 8 Tp.und29' n4 m8 m7 m6 rfl (by omega) (.slice D z B) p.length (p.map (qim .i64)) (by rfl) (by exact p9.out.alloc _) ⟨d.heap.size,0,none⟩ 1 1 [.int .i64 n] (by rfl) (by rfl) (qjh (cs:=#[n]) (t:=3) (fr:=(0,0)) (qhH d _)) (by simp[qjF]) (by omega) (by unfold qlc;omega) (by omega) (by simp;omega) (d.heap.size+1) (by simp) ?_;intro g' cap w5 l a Q r5;have c:d.gb w5 (qiH D z B).ownBlock:=((qhx d (.cells #[n] 3) none).but _).trans ⟨a.os,a.tape,a.output,a.size,a.block⟩;have s5:w5.cell? X.Bn=some (.slice D z B)/\w5.cell? X.Bu=some (.int .u8 M)/\w5.cell? q=some (.int .i64 n):=⟨c.cell c1 k6.out,c.cell c2 k5.out,c.cell c3 k0.out⟩;have l8:=(c.frozen_far _ d8 k6.out).trans z1;have l7:=(c.frozen_far _ d7 k5.out).trans z2;have⟨p8,k8,k9⟩:=qY l c Q;clear l c Q a;refine hK.out _ _ (by first | exact s5 | exact hHeld | exact⟨(qhx _ _ none).cl hHeld.1,(qhx _ _ none).cl hHeld.2.1,(qhx _ _ none).cl hHeld.2.2⟩) (λhHeld=>?_);refine rdc 6 λK hK=>?_;go_simp;go_at_call 151;refine(p6.out _).mono ?_;rintro e w2 ⟨rfl,rfl⟩;refine hK.out _ _ (by first | exact s5 | exact hHeld | exact⟨(qhx _ _ none).cl hHeld.1,(qhx _ _ none).cl hHeld.2.1,(qhx _ _ none).cl hHeld.2.2⟩) (λhHeld=>?_);try go_frame
 refine⟨by kernel_rfl,?_⟩;simp only[qig,qit];have d5:X.Bn≠X.Bu:=by omega
 have r4:X.Bu≠X.Bn:=by omega
 have m4:=s5.1;have m3:=s5.2.1;go_wp2;refine NoPanic.normal ?_;obtain⟨C,hC⟩:∃C,C=(w5.setCell X.Bn (.slice (some g') (p.length+1) cap)).setCell X.Bu (.int .u8 M2):=⟨_,rfl⟩;rw[<- hC];have⟨a6,T,e4,W⟩:=HI.out.push O (O.hlt _ _ _ hJ) (n:=(n:Int)) (g':=g') (cap:=cap) (A:=A) (E:=w5) (C:=C) ((q3.out.but _).trans k8.out) p8.out (by rcases k9.out with h | h;exact .inl h;right;have:=h9.out;omega) (by rw[hC];rfl) (by rw[hC];rfl) (by rw[hC];rfl) (by rw[hC,q1H,Int.toNat_natCast,q0.out]);have g5:=O.hJ _ _ _ _ hJ T;have e7:C.heap[q]?=some (.cells #[n] 3 (0,0)):=by
  have h1:=qz HI.out.nw;have h2:=qz HI.out.us;have h3:=a8.out;rw[W q (by omega) (by omega)];exact(k8.out.block _ (qz h8.out) k0.out).trans h8.out
 have u5:C.cell? X.Bg=some (.func (.func 154) #[] #[.pointer (some X.Bn),.pointer (some X.Bl),.pointer (some X.By),.pointer (some X.Bu),.pointer (some X.Bp)]):=q8 (o:=0) a6.gr rfl;have⟨HC,u9,k7,u7,q2,q1,g9⟩:=q6C hC W a6 T e4 g5 e7;clear hC W a6 T e4 g5 e7 m4 m3 s5 l8 l7 c1 c2 c3 c4 z1 z2 d8 d7 hHeld;go_wp2_with (go_at_call 154;refine(V pre G C q1.out n7 ⟨_,k7.out⟩).mono ?_;rintro e w6 ⟨b,rfl,hR⟩);obtain⟨G6,⟨m5,h6⟩,P,H⟩:=hR;have I:=h6.no;rw[qjm,qk0] at I;obtain⟨g6,R,e6,n6,-⟩:=q4o (y:=.int .i64 n) I;have n9:m5=.slice (some g6) (p.length+1) R:=e6;subst n9;have t8:=a8.out;have s8:=qz HI.out.nw;have s2:=qz HI.out.us;have e5:w6.heap[q]?=some (.cells #[n] 3 (0,0)):=by
  rw[P.keep q (qz g9.out) (.inl (by omega)) (λhf=>?_) (by omega) (by omega) (λhr=>?_)]
  ·exact g9.out
  ·have:=O.hlt _ _ _ hJ _ hf;omega
  ·obtain⟨v,ty,fr,e1,r⟩:=hr;rw[k7.out.nw] at e1;cases e1;obtain rfl:g'=q:=by simpa[qiF] using r
   rcases k9.out with h | h
   ·have⟨_,cs,h2⟩:=kF HI.out.no h;have:=qz h2;omega
   ·have:=h9.out;omega
 refine qoe (f:=152) (args:=#[.pointer (some X.Bn),.pointer (some X.Bu),.pointer (some q)]) (by simp) (by simp[go_sem]) ?_;refine(qdE X.Bn X.Bu q (some ⟨g6,0,none⟩) p.length R (qW p) n w6 d6 N e8 (by omega) n6 d5 (by omega) h6.nw (by rw[h6.us,q1H,Int.toNat_natCast]) e5 _).mono ?_;rintro e u' w7 ⟨rfl,rfl,c9⟩;have⟨h7,F,d9⟩:=h6.pop O (λe=>by rw[e] at hn;cases hn) c9;refine⟨.bool b,by rw[results_tmp (t:=5) rfl];rfl,b,rfl,G6,⟨_,h7⟩,(q2.out.trans P).trans d9,?_⟩;cases b with
 | true=>
  obtain⟨xs,e1,r⟩:=H;exact⟨xs,e1,O.hJ _ _ _ _ r F⟩
 | false=>
  obtain⟨xs,t,e1,r⟩:=H;exact⟨xs,t,e1,O.hJx _ _ _ _ r F⟩
end
section
open Go.RowKit Go.Shelf
attribute [local go_sem] Oper.semAt_some
def q7y{w:qhy}{b n:Nat}{v:qhC}{d:List qhC}(h:w.ownsRow b 3 1 v n d):∃a c,v=.slice a n c:=by
 rcases h.2 with⟨rfl,e⟩ | ⟨g,i,f,rfl,_⟩
 ·exact⟨none,0,by rw[e]⟩
 ·exact⟨_,_,rfl⟩
def It3.xp{X:xx}{p:List Int}{G:Nat->Prop}{W:qhy}{c:Option qj5}{b:Nat}{a:qhC}(h:It3 X p G W c b a)(d:p.length<=5):xpI (p,a) W:=(qd.own h.no (by omega)).mono (qix _) (qhz _)
def q9r(X:xx)(O:Yz X)(p:List Int)(i:p.length=X.ws.length)(r:p.Nodup)(q:∀x∈p,x∈X.ws):∀pre G A,X.J pre G A->Pfx X pre (zB X.ws 0 p)->q3s X p G A->qiw Ya 154 #[ptA X.Bn,ptA X.Bl,ptA X.By,ptA X.Bu,ptA X.Bp] A (Rg X p (zB X.ws 0 p) pre G A):=by
 intro pre G A hJ s t;obtain⟨H,a⟩:=t;have d:=a.xp (by have:=O.len;omega);obtain⟨g,f,rfl⟩:=q7y a.no;have N:A.cell? X.Bn=some (.slice g p.length f):=q8 a.nw rfl;have M:A.cell? X.Bl=some (.slice X.lb X.ws.length X.lc):=q8 a.ls rfl;have L:A.cell? X.By=some (.func (.yield X.l) #[] #[]):=q8 a.yl rfl;have⟨I,v,j,w,B,F⟩:=O.hY 2 pre G (p,.slice g p.length f) A hJ ⟨d,i,r,q,(qnB (p=[])).elim (λh=>.inr (a.nn h (qjq (by rw[<- i,h];rfl)))) .inl⟩ s;have C:((p.length:Int) == (X.ws.length:Int))=true:=by rw[i];simp
 have y:=qhw a;dsimp only at B;clear d a i;refine(qkx (n:=3)).1 ?_;refine qpy Tp.x154 rfl trivial ?_ rfl;have D:∀k:Nat,(Fence.wide.depth.isSome=true->1<=k):=λk h=>by cases h
 unfold ptA;simp only[Tryz.ntmps154,qiu,qi3,qi7,qii,qiB,qij,qik,qiq,qlm,qin,qi9]
 gi_wp2
 refine F.mono ?_;rintro e P ⟨z,⟨rfl,c,b⟩ | ⟨rfl,c,b⟩⟩
 ·gi_wp2
  go_ret;have⟨u,o⟩:=y.out.body O b;exact⟨true,rfl,z,⟨_,u⟩,o,[(p,.slice g p.length f)],rfl,c⟩
 ·gi_wp2
  go_ret;have⟨u,o⟩:=y.out.body O b;exact⟨false,rfl,z,⟨_,u⟩,o,[(p,.slice g p.length f)],[],rfl,c⟩
def xI(a p:List Int)(m k:Nat)(x:Int)(h:a[k]?=some x):((a.take (k+1)).flatMap λn=>if n∈p then[] else zB a m (p++[n]))=((a.take k).flatMap λn=>if n∈p then[] else zB a m (p++[n]))++(if x∈p then[] else zB a m (p++[x])):=by
 rw[qja,h];simp
def Qt(a p:List Int)(m k:Nat):zB a (m+1) p=((a.take k).flatMap λn=>if n∈p then[] else zB a m (p++[n]))++((a.drop k).flatMap λn=>if n∈p then[] else zB a m (p++[n])):=by
 rw[<- qqz,List.take_append_drop];rfl
def q9s(X:xx)(O:Yz X)(m:Nat)(p:List Int)(hp:p.length+(m+1)=X.ws.length)(b0:p.Nodup)(r:∀x∈p,x∈X.ws)(ih:∀q,q.length+m=X.ws.length->q.Nodup->(∀x∈q,x∈X.ws)->∀pre G A,X.J pre G A->Pfx X pre (zB X.ws m q)->q3s X q G A->qiw Ya 154 #[ptA X.Bn,ptA X.Bl,ptA X.By,ptA X.Bu,ptA X.Bp] A (Rg X q (zB X.ws m q) pre G A)) :∀pre G A,X.J pre G A->Pfx X pre (zB X.ws (m+1) p)->q3s X p G A->qiw Ya 154 #[ptA X.Bn,ptA X.Bl,ptA X.By,ptA X.Bu,ptA X.Bp] A (Rg X p (zB X.ws (m+1) p) pre G A):=by
 intro pre G A hJ W c8;obtain⟨nv,Q⟩:=c8;have b7:=O.len;obtain⟨na,nc,rfl⟩:=q7y Q.no;have c1:A.cell? X.Bn=some (.slice na p.length nc):=q8 Q.nw rfl;have c2:A.cell? X.Bl=some (.slice X.lb X.ws.length X.lc):=q8 Q.ls rfl;have k7:((p.length:Int) == (X.ws.length:Int))=false:=by rw[beq_eq_false_iff_ne];omega
 have z:∀n:Nat,(n:Int)∈X.ws->¬ (n:Int)∈p->∀pre G A,X.J pre G A->Pfx X pre (zB X.ws m (p++[(n:Int)]))->q3s X p G A->qiw Ya 150 #[.int .i64 n,ptA X.Bn,ptA X.Bu,ptA X.Bg] A (Rg X p (zB X.ws m (p++[(n:Int)])) pre G A):=λn hn S=>
  qfx X O _ p n hn S r (by omega) (ih _ (by simp;omega) (List.nodup_append.2 ⟨b0,by simp,λa ha b hb e=>S (by rw[qkv.1 hb] at e;exact e ▸ ha)⟩) (λx P=>by rcases qkn.1 P with h | h;exact r x h;rw[qkv.1 h];exact hn))
 have a7:=qhw z;have c9:=Q;have⟨HI,HJ,HP,d9⟩:=zI Q hJ hp W;clear W;clear Q hp ih hJ z c9;refine(qkx (n:=3)).1 ?_;refine qpy Tp.x154 rfl trivial ?_ rfl;have k9:∀k:Nat,(Fence.wide.depth.isSome=true->1<=k):=λk h=>by cases h
 unfold ptA at *
 simp only[Tryz.ntmps154,qiu,qi3,qi7,qii,qiB,qij,qik,qiq,qlm,qin,qi9]
 gi_wp2
 gi_loopw [18] (λiv wr=>∃k:Nat,iv=.int .i64 k/\k<=X.ws.length/\∃N,q3s X p N wr/\ItR X G N A wr/\∃j,j.map qma=((X.ws.take k).flatMap λn=>if n∈p then[] else zB X.ws m (p++[n]))/\X.J (pre++j) N wr) (λiv _=>(X.ws.length - qj7 iv).toNat)
 case atStart=>exact⟨0,rfl,by omega,G,⟨_,HI.out⟩,ItR.refl _ _ _,[],by simp,by simpa using HJ.out⟩
 case round=>
  obtain⟨k,rfl,hk,N,⟨h8,Z⟩,V,j,R,Y⟩:=hrel;have⟨g,v,i,L⟩:=zI Z V R Y;clear Z V R Y c1 c2;by_cases s:k<X.ws.length
  ·obtain⟨x,l⟩:∃x,X.ws[k]?=some x:=⟨_,qhG s⟩;have F:=qih l;have k6:=O.five x F;obtain⟨b1,l9,he,-,hc⟩:=g.out.li.cell;cases he;have⟨B,o,b8,l8,l7,l6,a6⟩:=hc (by intro e;rw[e] at s;simp at s);have P:=a6 k s;rw[l] at P;simp only[qi0] at P;obtain⟨n,rfl⟩:∃n:Nat,x=n:=⟨x.toNat,by omega⟩;have c3:wr.cell? X.Bu=some (.int .u8 (qW p:Nat)):=q8 g.out.us rfl;have c4:wr.cell? X.Bp=some (.func (.func 150) #[] #[.pointer (some X.Bn),.pointer (some X.Bu),.pointer (some X.Bg)]):=q8 g.out.pu rfl;have b6:n<5:=by omega
   have T:qW p<32:=vw p 5 λx P=>by have:=O.five x (r x P);omega
   have g5:(k:Int)<(X.ws.length:Int):=by omega
   have⟨u,d7⟩:=qF l F;obtain⟨M,hM⟩:∃M:Int,M=(qW p:Nat):=⟨_,rfl⟩;rw[<- hM] at c3;have D:(qW p).testBit n=decide ((n:Int)∈p):=by
    rw[Bool.eq_iff_iff,Qw,decide_eq_true_eq];constructor
    ·rintro⟨y,hy,k5⟩;have:=O.five y (r y hy);obtain rfl:y=(n:Int):=by omega
     exact hy
    ·exact λh=>⟨n,h,by omega⟩
   have C:∀w,qiw Ya 129 #[.int .u8 M,.int .i64 n] w λe w'=>e=.returned (.bool (decide ((n:Int)∈p)))/\w=w':=λw=>by
    rw[hM,<- D];exact Z0 _ n w T b6
   have c:=qhw C;clear l F hc a6 hM D C;rw[b8];by_cases d:(n:Int)∈p
   ·have U:decide ((n:Int)∈p)=true:=by simpa using d
    have f:=qhw d;clear d;rw[U] at c;clear U
    gi_wp2_with (refine⟨trivial,?_⟩;gi_at_call 129;refine(qkx.2 (c.out _)).mono ?_;rintro e w2 ⟨rfl,rfl⟩)
    refine⟨λ_ h=>(by cases h),?_⟩
    gi_wp2
    go_roundw
    case rel=>exact⟨k+1,by simp,by omega,N,⟨_,g.out⟩,v.out,j,by rw[xI _ _ _ _ _ u.out,if_pos f.out,qo3];exact i.out,L.out⟩
    case measure=>simp[qj7];omega
   ·have U:decide ((n:Int)∈p)=false:=by simpa using d
    have f:=qhw d;clear d;rw[U] at c;clear U;have d8:=qhw (show Pfx X (pre++j) (zB X.ws m (p++[(n:Int)])) by
     have⟨t,ht⟩:=d9.out;rw[Qt X.ws p m (k+1),xI _ _ _ _ _ u.out,if_neg f.out,<- i.out] at ht;exact⟨_,by rw[ht,qk0];simp only[qkt];rfl⟩)
    gi_wp2_with (first
     | (refine⟨trivial,?_⟩;gi_at_call 129;refine(qkx.2 (c.out _)).mono ?_;rintro e w2 ⟨rfl,rfl⟩)
     | (refine⟨trivial,?_⟩;gi_at_call 150;refine(qkx.2 (a7.out n d7.out f.out (pre++j) N _ L.out d8.out ⟨_,g.out⟩)).mono ?_;rintro e w3 ⟨b,rfl,hR⟩;cases b))
    ·obtain⟨G3,I,H,ys,t,e1,e2⟩:=hR;go_ret;refine⟨false,rfl,G3,I,v.out.trans H,j++ys,t++((X.ws.drop (k+1)).flatMap λn=>if n∈p then[] else zB X.ws m (p++[n])),?_,by simpa using e2⟩;rw[Qt X.ws p m (k+1),xI _ _ _ _ _ u.out,if_neg f.out,e1,qk0,i.out];simp
    ·obtain⟨G3,I,H,ys,e1,e2⟩:=hR;go_roundw
     case rel=>exact⟨k+1,by simp,by omega,G3,I,v.out.trans H,j++ys,by rw[xI _ _ _ _ _ u.out,if_neg f.out,qk0,i.out,e1],by simpa using e2⟩
     case measure=>simp[qj7];omega
  ·obtain rfl:k=X.ws.length:=by omega
   gi_wp2
   go_ret;exact⟨true,rfl,N,⟨_,g.out⟩,v.out,j,by rw[i.out,Qt X.ws p m X.ws.length];simp,L.out⟩
def q54(X:xx)(O:Yz X):∀(m:Nat) (q:List Int),q.length+m=X.ws.length->q.Nodup->(∀x∈q,x∈X.ws)->∀pre G A,X.J pre G A->Pfx X pre (zB X.ws m q)->q3s X q G A->qiw Ya 154 #[ptA X.Bn,ptA X.Bl,ptA X.By,ptA X.Bu,ptA X.Bp] A (Rg X q (zB X.ws m q) pre G A)
 | 0,q,h,b,a=>q9r X O q (by omega) b a
 | m+1,q,h,b,a=>q9s X O m q h b a (q54 X O m)
end
section
open Go.RowKit Go.Shelf
def q2A{F:Fence}(a:F.depth=none)(k:Nat):F.room k:=λd h=>by rw[a] at h;cases h
def qbr{F:Fence}(g:F.depth=none){m e:Nat}{P:qi4}{l:Nat}{f:qjf}{b:Array qhC}{a d:qkk}{w:qhy}{R:Ending->qhy->Prop}(h:RoundIn F m P l f b a d w R):RoundIn F e P l f b a d w R:=⟨h.1,λc i _=>h.2 c i (q2A g _)⟩
def qac{F:Fence}(g:F.depth=none){m:Nat}(e:Nat){P:qi4}{l:Nat}{b:Array qhC}{W:qhy}{R:Ending->qhy->Prop}(h:YieldAt F m P l b W R):YieldAt F e P l b W R:=by
 obtain⟨j,c,a,d,f,i⟩:=h;exact⟨j,c,a,d,f,qbr g i⟩
def q6t(n:Nat)(Bl:Nat)(b:Option qj5)(c:Nat)(M ws:List Int)(hS:Jp M ws)(h5:∀x∈ws,0<=x/\x<5)(m6:ws.Nodup)(g6:ws.length<=5)(l:Nat)(J Jx:List (List Int × qhC)->(Nat->Prop)->qhy->Prop)(G0:Nat->Prop)(W:qhy)(k0:W.heap[Bl]?=some (.cells #[.slice b M.length c] 29 (0,0)))(hI:qd 0 W.heap.size W (.slice b M.length c) M)(hB:¬ G0 Bl)(hF:∀s G A,J s G A->∀k,G k->k<A.heap.size)(hJ:∀s G A C,J s G A->Stp W.heap.size Bl G A C->J s G C)(n4:∀s G A C,Jx s G A->Stp W.heap.size Bl G A C->Jx s G C)(hY:∀pre G x D,J pre G D->xpO ws x D->(∃t,zB ws ws.length []=(pre++[x]).map qma++t)->YieldAt Fence.wide n Ya l #[x.2] D λe W'=>∃G',(e=.returned (.bool true)/\J (pre++[x]) G' W'/\Bod W.heap.size Bl G G' D W')\/(e=.returned (.bool false)/\Jx (pre++[x]) G' W'/\Bod W.heap.size Bl G G' D W'))(h0:J [] G0 W) :qiw Ya 149 #[.func (.yield l) #[] #[],.pointer (some Bl)] W λe W'=>(∃v,e=.returned v)/\((∃xs G,xs.map qma=zB ws ws.length []/\J xs G W')\/(∃pre G,(∃t,zB ws ws.length []=pre.map qma++t)/\Jx pre G W')):=by
 have h9:=qz k0;have⟨By,D,b8,b0,I,e7⟩:=qT W (.cells #[.func (.yield l) #[] #[]] 51);have N:D.heap.size=By+1:=by rw[b0,qi6,b8]
 have F:=bk I k0;have c1:D.cell? Bl=some (.slice b M.length c):=q8 F rfl;have z1:=qj (o:=0) F;have g5:Bl<D.heap.size:=qz F;have q0:=qhw ((hI.kept I).mono (qhz _) I.size);have⟨p5,c8,p6,q2,p4,l4⟩:=KX b0 b8 N I e7 F;clear b0 b8 N I e7 F hI;go_enter Tp.x149,Tryz.ntmps149;go_upto_region 1 with(fail);rw[<- c8,<- p5];go_upto_region 2 with(first
  | (go_at_call 135;refine(Zt _ _ _ _).mono ?_;rintro e w2 ⟨rfl,rfl⟩)
  | (go_at_call 134;refine(hS D.heap.size (.slice b M.length c) _ (by simp) (by rw[kq];rfl) ((q0.alloc _).mono (qhz _) (by simp))).mono ?_;rintro e w2 ⟨v,rfl,b7,Q,f⟩;obtain⟨lb,lc,rfl,-,-⟩:=b7.cell;have c2:=(((qhx D (.cells #[.slice b M.length c] 29) none).t f).cl c1);have z2:=(((qhx D (.cells #[.slice b M.length c] 29) none).t f).frozen_far _ g5 (by simp)).t z1;have p9:=qhw b7;have L:=qhw ((qhx D (.cells #[.slice b M.length c] 29) none).t f);have u5:=qhw Q;clear b7 Q f))
 have s6:=qz ((bk L l4));obtain⟨d,a9⟩:∃d,d=w2.setCell Bl (.slice lb ws.length lc):=⟨_,rfl⟩;rw[<- a9];have q:=qhw a9;clear a9 c1 c2 z1 z2;have s8:∀(a:qj5) (fn:Fn) (x y:Array qhC) (m:Mode) (w:qhy),(store a (.func fn x y) m).run Ya w=stored Ya w a (.func fn x y) m:=λa fn x y m w=>run_store _ w a _ m rfl;go_upto_region 6 with(fail);obtain⟨u,i⟩:∃u,u=(((d.alloc (.cells #[.slice none 0 0] 29)).alloc (.cells #[.int .u8 0] 130)).alloc (.cells #[.nilFunc] 31)).alloc (.cells #[.func (.func 150) #[] #[.pointer (some d.heap.size),.pointer (some (d.heap.size+1:Nat)),.pointer (some (d.heap.size+1+1:Nat))]] 82):=⟨_,rfl⟩;have e8:(((d.alloc (.cells #[.slice none 0 0] 29)).alloc (.cells #[.int .u8 0] 130)).alloc (.cells #[.nilFunc] 31)).alloc (.cells #[.func (.func 150) #[] #[.pointer (some d.heap.size),.pointer (some (d.heap.size+1:Nat)),.pointer (some (d.heap.size+1+1:Nat))]] 82)=u:=i.symm;rw[e8];clear e8;obtain⟨S,j⟩:∃S,S=d.heap.size:=⟨_,rfl⟩;rw[<- j] at i ⊢;have O:d.heap.size=w2.heap.size:=by rw[q];simp[qki]
 have q6:=L.out.size;have g7:d.heap[Bl]?=some (.cells #[.slice lb ws.length lc] 29 (0,0)):=by rw[q,qg (bk L l4)];rfl
 have e6:d.heap[By]?=some (.cells #[.func (.yield l) #[] #[]] 51 (0,0)):=by
  rw[q,qji _ _ _ By (λe=>by have e':By=Bl:=e;have:=c8.out;omega)];exact bk L p4
 have ha:∀(w:qhy) (o:Obj) (k:Nat) (p:Obj),w.heap[k]?=some p->(w.alloc o).heap[k]?=some p:=λw o k p h=>qp h;have k5:=j;have Y:∀(w:qhy) (o:Obj),(w.alloc o).heap.size=w.heap.size+1:=λw o=>qi6 w o;have n8:u.heap[S]?=some (.cells #[.slice none 0 0] 29 (0,0)):=by rw[i,j];exact ha _ _ _ _ (ha _ _ _ _ (ha _ _ _ _ (qhH d _)))
 have u8:u.heap[S+1]?=some (.cells #[.int .u8 0] 130 (0,0)):=by
  rw[i];refine ha _ _ _ _ (ha _ _ _ _ ?_);have:=qhH (d.alloc (.cells #[.slice none 0 0] 29)) (.cells #[.int .u8 0] 130)
  rwa [Y,<- j] at this
 have g8:u.heap[S+2]?=some (.cells #[.nilFunc] 31 (0,0)):=by
  rw[i];refine ha _ _ _ _ ?_;have:=qhH ((d.alloc (.cells #[.slice none 0 0] 29)).alloc (.cells #[.int .u8 0] 130)) (.cells #[.nilFunc] 31)
  rwa [Y,Y,<- j] at this
 have p8:u.heap[S+3]?=some (.cells #[.func (.func 150) #[] #[.pointer (some S),.pointer (some (S+1:Nat)),.pointer (some (S+2:Nat))]] 82 (0,0)):=by
  rw[i];have:=qhH (((d.alloc (.cells #[.slice none 0 0] 29)).alloc (.cells #[.int .u8 0] 130)).alloc (.cells #[.nilFunc] 31)) (.cells #[.func (.func 150) #[] #[.pointer (some S),.pointer (some (S+1:Nat)),.pointer (some (S+1+1:Nat))]] 82)
  rwa [Y,Y,Y,<- j] at this
 have g9:d.gb u none:=by
  rw[i];exact(((qhx _ _ none).t (qhx _ _ none)).t (qhx _ _ none)).t (qhx _ _ none)
 have cg:u.cell? (S+1+1:Nat)=some .nilFunc:=q8 g8 rfl;have zg:u.frozen? ⟨S+1+1,0,none⟩=false:=qj g8;have⟨n3,m8,n6,n2,z,k9,p7,p3⟩:=qca n8 u8 g8 p8 g9 j g7 e6;have k7:=qhw O;clear n8 u8 g8 p8 g9 j g7 e6 O i ha Y k5;go_upto_region 7 with(fail);obtain⟨C,V⟩:∃C,C=u.setCell (S+2:Nat) (.func (.func 154) #[] #[.pointer (some S),.pointer (some Bl),.pointer (some By),.pointer (some (S+1:Nat)),.pointer (some (S+3:Nat))]):=⟨_,rfl⟩;have eC:u.setCell (S+1+1:Nat) (.func (.func 154) #[] #[.pointer (some S),.pointer (some Bl),.pointer (some By),.pointer (some (S+1:Nat)),.pointer (some (S+1+1+1:Nat))])=C:=V.symm;rw[eC];clear eC cg zg;have H:=qf u (S+2) 0 (.func (.func 154) #[] #[.pointer (some S),.pointer (some Bl),.pointer (some By),.pointer (some (S+1:Nat)),.pointer (some (S+3:Nat))]);rw[<- V] at H;have f:C.heap[S+2]?=some (.cells #[.func (.func 154) #[] #[.pointer (some S),.pointer (some Bl),.pointer (some By),.pointer (some (S+1:Nat)),.pointer (some (S+3:Nat))]] 31 (0,0)):=by rw[V,qg n6];rfl
 have k8:∀k o,k≠S+2->u.heap[k]?=some o->C.heap[k]?=some o:=λk o hk h=>blk H (by simpa using hk) h;have k4:∀k o,d.heap[k]?=some o->C.heap[k]?=some o:=λk o h=>k8 k o (by have:=qz h;have:=k9.out;omega) (bk z h);have k6:=c8.out;have N:=p6.out;have hS:=k9.out;have m3:=k7.out;have n7:C.heap.size=u.heap.size:=by rw[V];simp[qki]
 have m4:=z.out.size;have e9:Stp W.heap.size Bl G0 W C:=by
  have h2:=q2.out.t L;refine⟨?_,?_,?_,?_,λk hk hc=>?_⟩
  ·rw[V];exact z.os.trans (by rw[q];exact h2.os)
  ·rw[V];exact z.tape.trans (by rw[q];exact h2.tape)
  ·rw[V];exact z.output.trans (by rw[q];exact h2.output)
  ·omega
  ·have m7:k≠Bl:=by
    rintro rfl;rcases hc with hc | hc
    ·exact hc.2 rfl
    ·exact hB hc
   have e2:=h2.block k hk (by simp);have e4:d.heap[k]?=w2.heap[k]?:=by rw[q];exact qji _ _ _ k (λe=>m7 e)
   have e8:=z.out.block k (by omega) (by simp);rw[H.block k (by omega) (by simp;omega),e8,e4,e2]
 have r:∀k,W.heap.size<=k->¬ G0 k:=λk hk h=>by have:=hF _ _ _ h0 k h;omega
 obtain⟨X,U⟩:∃X:xx,X={ Bl,By,Bn:=S,Bu:=S+1,Bg:=S+2,Bp:=S+3,n1:=W.heap.size,l,ws,lb,lc,J,Jx,T:=zB ws ws.length [] }:=⟨_,rfl⟩;have hO:Yz X:=by
  rw[U];exact⟨hF,h9,by show W.heap.size<=By;omega,by show By<S;omega,by show S<S+1;omega,by show S+1<S+2;omega,by show S+2<S+3;omega,hJ,n4,h5,m6,g6,λm pre G x A h1 h2 h3=>qac rfl m (hY pre G x A h1 h2 (by obtain⟨t,ht⟩:=h3;exact⟨t,by rw[qk0,qkt];exact ht⟩))⟩
 have Z:qd W.heap.size C.heap.size C (.slice lb ws.length lc) ws:=by
  have h:=p9.out;rw[qi6] at h;have h4:=h.kept (qf w2 Bl 0 (.slice lb ws.length lc)) (λR e=>by cases e;left;omega);rw[<- q] at h4;have h8:=h4.kept z;have hc:=h8.kept H (λR e=>by cases e;right;omega);exact hc.mono (by omega) (by omega)
 have b6:It3 X [] G0 C lb lc (.slice none 0 0):=by
  rw[U];refine⟨k4 _ _ p7,Z,λB o e m5=>?_,k4 _ _ p3,k8 (S+1) _ (by omega) m8,f,k8 (S+3) _ (by omega) n2,k8 S _ (by omega) n3,qjE _ _ _ _,λg e=>by simp[qiF] at e,λ_ _=>rfl,hB,r _ (by show W.heap.size<=By;omega),r _ (by show W.heap.size<=S;omega),r _ (by show W.heap.size<=S+1;omega),r _ (by show W.heap.size<=S+2;omega),r _ (by show W.heap.size<=S+3;omega)⟩;obtain⟨base,t8,e',hl,hr⟩:=Z;cases e';have⟨B',o',cs,fr,e1,e2,e3,e4,e5⟩:=hr m5;rw[e] at e1;cases e1;exact r _ e2
 have a6:=q54 X hO ws.length [] (by rw[U];simp) (by simp) (by simp) [] G0 C (by rw[U];exact hJ _ _ _ _ h0 e9) (by rw[U];exact⟨[],by simp⟩) ⟨_,by rw[U] at b6 ⊢;exact b6⟩;rw[U] at a6;have cG:C.cell? (S+1+1:Nat)=some (.func (.func 154) #[] #[.pointer (some S),.pointer (some Bl),.pointer (some By),.pointer (some (S+1:Nat)),.pointer (some (S+3:Nat))]):=q8 f rfl;have q1:=qhw a6;clear a6 b6 hO U Z r e9 n7 m4 V H f k8 k4 k6 N hS m3;go_wp2_with (go_at_call 154;refine(q1).mono ?_;rintro e w9 ⟨b',rfl,hR⟩);go_end0;refine⟨⟨_,rfl⟩,?_⟩;obtain⟨G9,-,-,P⟩:=hR;cases b' with
 | true=>
  obtain⟨xs,e1,e2⟩:=P;exact .inl ⟨xs,G9,e1,by simpa using e2⟩
 | false=>
  obtain⟨xs,t,e1,e2⟩:=P;exact .inr ⟨xs,G9,⟨t,e1⟩,by simpa using e2⟩
def Kz(b:Option qj5)(n c:Nat)(w:qhy):qiw Ya 117 #[.slice b n c] w λe a=>e=.returned (.func (.func 149) #[] #[.pointer (some w.heap.size)])/\a=w.alloc (.cells #[.slice b n c] 29):=by
 go_enter Tp.x117,Tryz.ntmps117;go_wp2;go_ret;exact⟨rfl,rfl⟩
def J6(n:Nat)(g:Nat)(b:Option qj5)(c:Nat)(d a:List Int)(p:Jp d a)(u:∀x∈a,0<=x/\x<5)(h:a.Nodup)(e:a.length<=5)(w0:qhy)(f:w0.heap[g]?=some (.cells #[.slice b d.length c] 29 (0,0)))(q:qd 0 w0.heap.size w0 (.slice b d.length c) d) :qhj Fence.wide n Ya 149 #[.pointer (some g)] (λx:List Int × qhC=>#[x.2]) (xpO a) (λk=>k.map qma=zB a a.length []) (λpre=>∃t,zB a a.length []=pre.map qma++t) g w0:=λl J w y W i s r hJ j o v=>
 qkx.2 (q6t (n - 1) g b c d a p u h e l J w y W ((i.block g (qz f)).t f) ((q.kept (xh i)).mono (qhz _) i.size) s r hJ j o v)
def q00(u r:Nat)(yv qv:qhC)(c:List Par)(a:Int)(l:List Int)(w:qhy)(X:j4 u r w yv c a)(hI:qd u r w qv l)(V:r<=w.heap.size)(L:YOk c a)(C:PIn c l) :qiw Ya 114 #[yv,qv] w λe v=>e=.returned (.bool (decide (qK c l<=a) && qw c (pre Par.mx c c.length) l))/\w.gb v none:=by
 obtain⟨pv,rfl,Z⟩:=X;obtain⟨F,D,rfl,c9,-⟩:=Z.cell;obtain⟨base,a7,rfl,d5,-⟩:=hI.cell;have⟨Y,q,O,H,k,P⟩:=qT w (.cells #[.slice F c.length D,a] 91);have⟨U,T⟩:=qF P k;have b6:=qhw (hI.kept k);have b0:=qhw (Z.kept k);have⟨a9,a8,y,f⟩:=zI H O L C;have g:r<=q.heap.size:=qi1 V k.size;clear k P H O hI Z L C;go_enter Tp.x114,Tryz.ntmps114;go_upto_region 1 with(fail);rw[<- a8,<- a9];have b:=qhw (qi2 q none);have G:∀W,q.gb W none->j4 u r W (.agg #[.slice F c.length D,a]) c a:=λW h=>⟨_,rfl,b0.kept h⟩;have M:∀W,q.gb W none->qd u r W (.slice base l.length a7) l:=λW h=>b6.kept h;have I:∀W,q.gb W none->W.cell? Y=some (.slice F c.length D)/\W.cell? ⟨Y,1,none⟩=some (.int .i64 a):=λW h=>
  ⟨q8 (bk h U) rfl,q8 (bk h U) rfl⟩
 have⟨s,A,n⟩:=qY G M I;clear G M I;have Q:=qhw (n q (qi2 q none));obtain⟨gx,x⟩:∃gx,gx=pre Par.mx c c.length:=⟨_,rfl⟩;have N:∀i,0<=gx i/\gx i<=1000:=by rw[x];exact y.mx
 have⟨S,b8⟩:=qF x N;clear x N;have HC:=qhw (show q3g c a l=if qK c l<=a then 0 else 10 from rfl);by_cases d:qK c l<=a
 ·have HD:=qhw (show decide (qK c l<=a)=true by simpa using d);have B:=qhw (HC.t (if_pos d));clear d;go_region_held3 (λv=>v.cell? Y=some (.slice F c.length D)/\v.cell? ⟨Y,1,none⟩=some (.int .i64 a))
   (first | exact Q)
   (first
    | (go_at_call 133;refine(vF u r _ _ c a l _ (s _ (by first | exact b | exact b.t (q9 _ _))) (A _ (by first | exact b | exact b.t (q9 _ _))) (qi1 g (by first | exact b.size | exact(b.t (q9 _ none)).size)) y.len f.ok f.nd (λp C=>by have:=y.out.each p C;omega) f.len).mono ?_;rintro e o ⟨rfl,j⟩;rw[B];replace b:=qhw (show q.gb o none by first | exact b.t j | exact(b.t (q9 _ _)).t j);replace Q:=qhw (n o b);clear j)
    | (go_at_call 92;refine(xa u r _ c a _ (s _ (by first | exact b | exact b.t (q9 _ _))) (qi1 g (by first | exact b.size | exact(b.t (q9 _ none)).size)) y.len).mono ?_;rintro e o ⟨rfl,j⟩;rw[<- S];replace b:=qhw (show q.gb o none by first | exact b.t j | exact(b.t (q9 _ _)).t j);replace Q:=qhw (n o b);clear j)
    | (go_at_call 96;refine(kQ u r _ _ c a l _ _ (s _ (by first | exact b | exact b.t (q9 _ _))) (A _ (by first | exact b | exact b.t (q9 _ _))) (qi1 g (by first | exact b.size | exact(b.t (q9 _ none)).size)) y.len f.ok (by have:=f.out.len;omega) b8).mono ?_;rintro e o ⟨rfl,j⟩;replace b:=qhw (show q.gb o none by first | exact b.t j | exact(b.t (q9 _ _)).t j);replace Q:=qhw (n o b);clear j))
  all_goals
   have HV:=qhw (show qw c (pre Par.mx c c.length) l=qw c gx l by rw[S]);generalize qw c gx l=z at HV ⊢;go_wp2;go_ret;exact⟨by rw[HV,HD];rfl,T.t b⟩
 ·have HD:=qhw (show decide (qK c l<=a)=false by simpa using d);have B:=qhw (HC.t (if_neg d));clear d;refine qr 11 (λv=>v.cell? Y=some (.slice F c.length D)/\v.cell? ⟨Y,1,none⟩=some (.int .i64 a)) (by kernel_rfl) (by kernel_rfl) Q (λhHeld=>?_);simp only[qi3,qi7,qii,qiB,qib,qij,qik,qiq,qin,qi9];refine tk 0 (h:=tk 1 (h:=?_));try go_frame
  refine rdc 2 λK hK=>?_;go_simp;go_at_call 133;refine(vF u r _ _ c a l _ (s _ (b.t (q9 _ _))) (A _ (b.t (q9 _ _))) (qi1 g (b.t (q9 _ none)).size) y.len f.ok f.nd (λp C=>by have:=y.out.each p C;omega) f.len).mono ?_;rintro e o ⟨rfl,j⟩;rw[B];have R:=qhw ((b.t (q9 _ _)).t j);clear j;refine hK.out _ _ (n o R) (λhHeld=>?_);refine tk 3 (h:=tk 4 (h:=tku 5 (h:=tku 6 (h:=tku 7 (h:=tku 8 (h:=tku 9 (h:=tk 10 (h:=?_))))))));try go_frame
  refine⟨by kernel_rfl,?_⟩;simp only[qig,qit];go_wp2;go_ret;exact⟨by rw[HD];rfl,T.t R⟩
def xm(a:List Par)(b:Int)(l:List Int):Bool:=decide (qK a l<=b) && qw a (pre Par.mx a a.length) l
def q38(f c:Nat)(d qv:qhC)(b:List Par)(a:Int)(l:List Int)(w:qhy)(j:j4 f c w d b a)(o:qd f c w qv l)(i:c<=w.heap.size)(g:YOk b a)(k:POk b a l) :qiw Ya 114 #[d,qv] w λe n=>e=.returned (.bool (qw b (pre Par.mx b b.length) l))/\w.gb n none:=by
 have h:=q00 f c d qv b a l w j o i g k.pin
 rwa [show decide (qK b l<=a)=true by simpa using k.tall,Bool.true_and] at h
end
section
open Go.RowKit Go.Shelf
attribute [local go_sem] Oper.semAt_some
structure Frm(w3:qhy)(Bl:Nat)(W:qhy):Prop where
 os:W.os=w3.os
 tape:W.tape=w3.tape
 output:W.output=w3.output
 size:w3.heap.size<=W.heap.size
 keep:∀k,k<w3.heap.size->k≠Bl->W.heap[k]?=w3.heap[k]?
def Frm.refl(a:qhy)(b:Nat):Frm a b a:=⟨rfl,rfl,rfl,qhz _,λ_ _ _=>rfl⟩
def Frm.stp{b:qhy}{d:Nat}{G:Nat->Prop}{A C:qhy}(h:Frm b d A)(a:Stp b.heap.size d G A C):Frm b d C :=
 ⟨a.os.trans h.os,a.tape.trans h.tape,a.output.trans h.output,qi1 h.size a.size,λk c e=>(a.keep k (qia c h.size) (.inl ⟨c,e⟩)).t (h.keep k c e)⟩
def Frm.grown{b:qhy}{d:Nat}{A C:qhy}(h:Frm b d A)(a:A.gb C none):Frm b d C :=
 ⟨a.os.trans h.os,a.tape.trans h.tape,a.output.trans h.output,qi1 h.size a.size,λk c e=>(a.block k (qia c h.size) (by simp)).t (h.keep k c e)⟩
def q2d{w b C E:qhy}{D:Nat}(a:w.gb b none)(o:C.os=b.os/\C.tape=b.tape/\C.output=b.output/\b.heap.size<=C.heap.size/\∀k,k<w.heap.size->C.heap[k]?=b.heap[k]?)(c:C.gb E (some D))(f:w.heap.size<=D):w.gb E none :=
 ⟨c.os.trans (o.1.t a.os),c.tape.trans (o.2.1.t a.tape),c.output.trans (o.2.2.1.t a.output),qi1 a.size (qi1 o.2.2.2.1 c.size),λk d _=>
  (c.block k (qia d (qi1 a.size o.2.2.2.1)) (by intro e;cases e;omega)).t ((o.2.2.2.2 k d).t (a.block k d (by simp)))⟩
def q0y:Nat->Prop:=λ_=>False
def q7m{d:List Int}(x:List Int × qhC)(A:qhy)(l:Nat)(o f:Obj)(h:A.heap[l]?=some o)(q:o.isCells=false)(k:xpO d x A):xpO d x (A.putObj l f):=by
 obtain⟨⟨base,c,e,p,n⟩,r⟩:=k;refine⟨⟨base,c,e,p,λa=>?_⟩,r⟩;have⟨B,j,y,s,w,v,i,b,u⟩:=n a;have g:=qls A l f;exact⟨B,j,y,s,w,v,qia i g.size,(g.block B i (λe=>by cases e;rw[h] at b;cases b;cases q)).t b,u⟩
def q9u(yv qv:qhC)(g:List Par)(a:Int)(ll R:List Int)(w:qhy)(q6:j4 0 w.heap.size w yv g a)(hI:qd 0 w.heap.size w qv ll)(q4:YOk g a)(hS:Jp ll R)(h5:∀x∈R,0<=x/\x<5)(q5:R.Nodup)(m6:R.length<=5)(q3:∀x:List Int,x.length=R.length->x.Nodup->(∀y∈x,y∈R)->PIn g x) :qiw Ya 102 #[yv,qv] w λe w'=>w.gb w' none/\((∃x v,(zB R R.length []).find? (xm g a)=some x/\e=.returned (.tuple #[v,.bool true])/\qd w.heap.size w'.heap.size w' v x) \/((zB R R.length []).find? (xm g a)=none/\e=.returned (.tuple #[.slice none 0 0,.bool false]))):=by
 obtain⟨pv,rfl,hP⟩:=q6;obtain⟨yb,Z,rfl,w9,-⟩:=hP.cell;obtain⟨base,N,rfl,x4,-⟩:=hI.cell;obtain⟨Y,u⟩:∃Y,Y=w.heap.size:=⟨_,rfl⟩;refine(qkx (n:=6)).1 ?_;refine qpc Tp.x102 rfl trivial ?_ rfl;simp only[Tryz.ntmps102,qiu,qi3,qi7,qii,qiB,qij,qik,qiq,qlm,qin,qi9]
 gi_wp2_with (refine⟨trivial,?_⟩;gi_at_call 117;refine(qkx.2 (Kz _ _ _ _)).mono ?_;rintro e w2 ⟨rfl,rfl⟩)
 obtain⟨F,r⟩:∃F,F=(((w.alloc (.cells #[.slice yb g.length Z,a] 91)).alloc (.cells #[.slice none 0 0] 29)).alloc (.cells #[.bool false] 4)).alloc (.cells #[.slice base ll.length N] 29):=⟨_,rfl⟩;have e3:(((w.alloc (.cells #[.slice yb g.length Z,a] 91)).alloc (.cells #[.slice none 0 0] 29)).alloc (.cells #[.bool false] 4)).alloc (.cells #[.slice base ll.length N] 29)=F:=r.symm;rw[e3];clear e3;rw[<- u];have S:∀(w:qhy) (o:Obj),(w.alloc o).heap.size=w.heap.size+1:=λw o=>qi6 w o;have ha:∀(w:qhy) (o:Obj) (k:Nat) (p:Obj),w.heap[k]?=some p->(w.alloc o).heap[k]?=some p:=λw o k p h=>qp h;have X:w.gb F none:=by
  rw[r];exact(((qhx _ _ none).t (qhx _ _ none)).t (qhx _ _ none)).t (qhx _ _ none)
 have q2:F.heap.size=Y+4:=by rw[r,S,S,S,S,u]
 have y3:F.heap[Y]?=some (.cells #[.slice yb g.length Z,a] 91 (0,0)):=by rw[r,u];exact ha _ _ _ _ (ha _ _ _ _ (ha _ _ _ _ (qhH w _)))
 have r3:F.heap[Y+1]?=some (.cells #[.slice none 0 0] 29 (0,0)):=by
  rw[r];refine ha _ _ _ _ (ha _ _ _ _ ?_);have:=qhH (w.alloc (.cells #[.slice yb g.length Z,a] 91)) (.cells #[.slice none 0 0] 29)
  rwa [S,<- u] at this
 have b3:F.heap[Y+2]?=some (.cells #[.bool false] 4 (0,0)):=by
  rw[r];refine ha _ _ _ _ ?_;have:=qhH ((w.alloc (.cells #[.slice yb g.length Z,a] 91)).alloc (.cells #[.slice none 0 0] 29)) (.cells #[.bool false] 4)
  rwa [S,S,<- u] at this
 have l3:F.heap[Y+3]?=some (.cells #[.slice base ll.length N] 29 (0,0)):=by
  rw[r];have:=qhH (((w.alloc (.cells #[.slice yb g.length Z,a] 91)).alloc (.cells #[.slice none 0 0] 29)).alloc (.cells #[.bool false] 4)) (.cells #[.slice base ll.length N] 29)
  rwa [S,S,S,<- u] at this
 have r5:=(hI.kept X).mono (qhz _) X.size;have t3:=qhw ((hP.kept X));have⟨n6,n9,s7,z3,n7,b9⟩:=KX r3 b3 y3 q2 X u;clear S ha r hI hP r3 b3 y3 X u;refine vL rfl (by omega) (gf:=149) (lb:=#[.pointer (some (Y+3:Nat))]) rfl trivial (enters_of Tp.x149 (by kernel_rfl) rfl)
  (J6 5 (Y+3) base N ll R hS h5 q5 m6 F l3 r5) (qoa _ _) (λ_=>rfl) (G0:=q0y) (λh=>h) (by omega) (q7m)
  (λpr G W=>(∀x∈pr.map qma,xm g a x=false)/\G=q0y/\Frm F (Y+3) W)
  (λc pr G W=>c=.ret/\∃q x v lo hi,pr.map qma=q++[x]/\(∀y∈q,xm g a y=false)/\xm g a x=true/\(W.os=F.os/\W.tape=F.tape/\W.output=F.output/\F.heap.size<=W.heap.size/\∀k,k<Y->W.heap[k]?=F.heap[k]?) /\
   W.heap[Y+1]?=some (.cells #[v] 29 (0,0))/\W.heap[Y+2]?=some (.cells #[.bool true] 4 (0,0))/\qd lo hi W v x/\(∀k,lo<=k->k<hi->G k)/\hi<=W.heap.size/\Y<=lo)
  (λs G A h k H=>by rw[h.2.1] at H;exact H.elim)
  (λs G A C h f=>⟨h.1,h.2.1,h.2.2.stp f⟩)
  (λc s G A C h f=>by
   obtain⟨hc,q,x,v,lo,hi,h1,h2,h3,⟨o1,o2,o3,o4,o5⟩,h4,h5,h6,h7,h8,h9⟩:=h;refine⟨hc,q,x,v,lo,hi,h1,h2,h3,⟨f.os.trans o1,f.tape.trans o2,f.output.trans o3,qi1 o4 f.size,λk H=>(f.keep k (by omega) (.inl ⟨by omega,by omega⟩)).t (o5 k H)⟩,(f.keep _ (qz h4) (.inl ⟨by omega,by omega⟩)).t h4,(f.keep _ (qz h5) (.inl ⟨by omega,by omega⟩)).t h5,?_,h7,qi1 h8 f.size,h9⟩;obtain⟨b',c',e,hl,hr⟩:=h6;refine⟨b',c',e,hl,λL=>?_⟩;have⟨B,o,cs,fr,e1,e2,e3,e4,e5⟩:=hr L;exact⟨B,o,cs,fr,e1,e2,e3,(f.keep B (by omega) (.inr (h7 B e2 e3))).t e4,e5⟩)
  ⟨by simp,rfl,Frm.refl _ _⟩
  (λx=>{ tmps:=#[.agg #[.slice yb g.length Z,a],.slice base ll.length N,.pointer (some Y),qhE,.pointer (some (Y+1:Nat)),.pointer (some (Y+1+1:Nat)),x.2,.slice base ll.length N,.func (.func 149) #[] #[.pointer (some (Y+1+1+1:Nat))],x.2,qhE,qhE,qhE,qhE,qhE],defers:=[] }) ?assign ?body ?done ?stop
 case assign=>
  intro l x W K hK
  gi_wp2
  exact hK
 case body=>
  rintro l pr G x W ⟨U,rfl,b⟩ hx -
  have d6:=(b.keep Y (by omega) (by omega)).t s7;have m5:=(b.keep (Y+1) (by omega) (by omega)).t n6;have m9:=(b.keep (Y+2) (by omega) (by omega)).t n9;have n2:qn 0 W.heap.size W (.slice yb g.length Z) g:=by
   have⟨b',c',e,hl,hr⟩:=t3.out;refine⟨b',c',e,hl,λL=>?_⟩;have⟨B,o,cs,fr,e1,e2,e3,e4,e5⟩:=hr L;have:=b9.out;have:=b.size;exact⟨B,o,cs,fr,e1,e2,by omega,(b.keep B (by omega) (by omega)).t e4,e5⟩
  obtain⟨a9,I⟩:=hx;have T:=q3 x.1 I.1 I.2.1 I.2.2.1;have q1:x.1.length<=5:=by have:=I.1;omega
  obtain⟨Q,x2⟩:=x;obtain⟨xb,xc,m4,-,-⟩:=a9.cell;dsimp only at m4 T q1 I;subst m4;have c1:W.cell? Y=some (.slice yb g.length Z):=q8 d6 rfl;have c2:W.cell? ⟨Y,1,none⟩=some (.int .i64 a):=q8 d6 rfl;obtain⟨z,hz⟩:∃z,z=xm g a Q:=⟨_,rfl⟩;have m8:qiw Ya 114 #[.agg #[.slice yb g.length Z,a],.slice xb Q.length xc] W λe w'=>e=.returned (.bool z)/\W.gb w' none:=by
   rw[hz];exact q00 0 W.heap.size _ _ g a Q W ⟨_,rfl,n2⟩ a9 (qhz _) q4 T
  have⟨n8,HZ⟩:=qF m8 hz;have s8:=qhw (show qd 0 W.heap.size W (.slice xb Q.length xc) Q from a9);have⟨s9,d,c3,t1,t7⟩:=Zc I b U m5 m9;clear m8 hz a9 I b U m5 m9 d6 n2 T;cases z with
  | false=>
   gi_wp2_with (refine⟨trivial,?_⟩;gi_at_call 114;refine(CallsIn.inRound l (qkx.2 n8)).mono ?_;rintro e w5 ⟨rfl,M⟩)
   refine⟨q0y,⟨M.tape,M.size,λk H _ _=>M.block k H (by simp),λk H=>H.elim⟩,?_,rfl,d.grown M⟩;intro y hy;rw[qk0] at hy;rcases qkn.1 hy with h | h
   ·exact c3 y h
   ·have e:y=Q:=by simpa using h
    rw[e,<- HZ]
  | true=>
   have x3:=d.out.size
   gi_wp2_with (first
    | (refine⟨trivial,?_⟩;gi_at_call 114;refine(CallsIn.inRound l (qkx.2 n8)).mono ?_;rintro e w5 ⟨rfl,M⟩;have i:=qhw M;clear M)
    | (refine⟨trivial,?_⟩;gi_at_call 84;refine(CallsIn.inRound l (qkx.2 (JW 0 w5.heap.size _ Q w5 ((s8.kept i).mono (qhz _) i.size) (qhz _) s9.2.2.2 (by omega)))).mono ?_;rintro e w6 ⟨v',rfl,b0,e7⟩;obtain⟨vb,vc,rfl,-,-⟩:=e7.cell;have r6:=bk (i.t b0) t1;have b6:=bk (i.t b0) t7;have s6:=q8 (o:=0) r6 rfl;have p6:=qj (o:=0) r6;have s5:=q8 (o:=0) b6 rfl;have p5:=qj (o:=0) b6;have P:=qhw b0;have t5:=qhw e7;have t2:=qhw r6;have t8:=qhw b6;clear b0 e7 r6 b6))
   have z1:=i.out.size;have x9:=P.out.size;have e6:=b9.out;obtain⟨C,j⟩:∃C,C=(w6.setCell (Y+1:Nat) (.slice vb Q.length vc)).setCell (Y+2:Nat) (.bool true):=⟨_,rfl⟩;have eC:(w6.setCell (Y+1:Nat) (.slice vb Q.length vc)).setCell (Y+1+1:Nat) (.bool true)=C:=j.symm;rw[eC];have O:∀k,k≠Y+1->k≠Y+2->C.heap[k]?=w6.heap[k]?:=λk k1 k2=>by
    rw[j];exact(qji _ _ _ k (λe=>k2 e)).t (qji _ _ _ k (λe=>k1 e))
   have cr:C.heap[Y+1]?=some (.cells #[.slice vb Q.length vc] 29 (0,0)):=by
    rw[j,qji _ _ _ (Y+1) (λe=>by have e':Y+1=Y+2:=e;omega),qg t2];rfl
   have cb:C.heap[Y+2]?=some (.cells #[.bool true] 4 (0,0)):=by
    rw[j,qg ((qji _ _ _ (Y+2) (λe=>by have e':Y+2=Y+1:=e;omega)).t t8)];rfl
   have cs:C.heap.size=w6.heap.size:=by rw[j];simp[qki]
   have n3:∀k,k<W.heap.size->w6.heap[k]?=W.heap[k]?:=λk H=>(P.block k (by omega) (by simp)).t (i.block k H (by simp));refine⟨λk=>w5.heap.size<=k/\k<w6.heap.size,⟨?_,by omega,λk H hn _=>?_,λk H=>.inr (by have:=H.1;omega)⟩,rfl,pr.map qma,Q,.slice vb Q.length vc,w5.heap.size,w6.heap.size,by simp,c3,HZ.symm,⟨?_,?_,?_,by omega,λk H=>?_⟩,cr,cb,?_,λk h1 h2=>⟨h1,h2⟩,by omega,by omega⟩
   ·rw[j];exact P.tape.trans i.tape
   ·rw[O k (by omega) (by omega)];exact n3 k H
   ·rw[j];exact(P.os.trans i.os).t d.os
   ·rw[j];exact(P.tape.trans i.tape).t d.tape
   ·rw[j];exact(P.output.trans i.output).t d.output
   ·rw[O k (by omega) (by omega),n3 k (by omega)];exact d.keep k (by omega) (by omega)
   ·have⟨b',c',e,hl,hr⟩:=t5.out;refine⟨b',c',e,hl,λL=>?_⟩;have⟨B,o,g7,fr,e1,e2,e3,e4,e5⟩:=hr L;exact⟨B,o,g7,fr,e1,e2,e3,(O B (by omega) (by omega)).t e4,e5⟩
 case done=>
  rintro D ys G W hD q0 ⟨U,rfl,b⟩ hK r8;have r6:=(b.keep (Y+1) (by omega) (by omega)).t n6;have b6:=(b.keep (Y+2) (by omega) (by omega)).t n9;have s6:=q8 (o:=0) r6 rfl;have p6:=qj (o:=0) r6;have s5:=q8 (o:=0) b6 rfl;have p5:=qj (o:=0) b6;have⟨d,c3⟩:=qF b U;clear b U
  gi_wp2
  have e6:=b9.out;obtain⟨C,j⟩:∃C,C=(W.setCell (Y+1:Nat) (.slice none 0 0)).setCell (Y+2:Nat) (.bool false):=⟨_,rfl⟩;have eC:(W.setCell (Y+1:Nat) (.slice none 0 0)).setCell (Y+1+1:Nat) (.bool false)=C:=j.symm;rw[eC];have O:∀k,k≠Y+1->k≠Y+2->C.heap[k]?=W.heap[k]?:=λk k1 k2=>by
   rw[j];exact(qji _ _ _ k (λe=>k2 e)).t (qji _ _ _ k (λe=>k1 e))
  have cr:C.heap[Y+1]?=some (.cells #[.slice none 0 0] 29 (0,0)):=by
   rw[j,qji _ _ _ (Y+1) (λe=>by have e':Y+1=Y+2:=e;omega),qg r6];rfl
  have cb:C.heap[Y+2]?=some (.cells #[.bool false] 4 (0,0)):=by
   rw[j,qg ((qji _ _ _ (Y+2) (λe=>by have e':Y+2=Y+1:=e;omega)).t b6)];rfl
  have r4:C.heap[D]?=some (.deferred (some [])):=(O D (by omega) (by omega)).t hK;have hg:=qls C D (.deferred none);have er:=(hg.block (Y+1) (qz cr) (by simp;omega)).t cr;have eb:=(hg.block (Y+2) (qz cb) (by simp;omega)).t cb;have cs:C.heap.size=W.heap.size:=by rw[j];simp[qki]
  have x5:=d.out.size;refine⟨by simp,.inl ⟨_,_,rfl,qoB r4,?_⟩⟩;refine⟨.tuple #[.slice none 0 0,.bool false],by simp[qkh,qs3,go_sem,qiA,er,eb],?_,.inr ⟨?_,rfl⟩⟩
  ·refine q2d n7 ⟨by rw[j];exact d.os,by rw[j];exact d.tape,by rw[j];exact d.output,by omega,λk H=>?_⟩ hg (by omega);rw[O k (by omega) (by omega)];exact d.keep k (by omega) (by omega)
  ·rw[<- q0];exact qmp.2 λy hy=>by rw[c3 y hy];simp
 case stop=>
  rintro D c pr G W hD ⟨t,ht⟩ ⟨rfl,h⟩ hK r8;obtain⟨q,x,v,lo,hi,h1,h2,h3,ho,cr,cb,m7,-,h8,h9⟩:=h;have e6:=b9.out;have hg:=qls W D (.deferred none);have er:=(hg.block (Y+1) (qz cr) (by simp;omega)).t cr;have eb:=(hg.block (Y+2) (qz cb) (by simp;omega)).t cb;have V:qd w.heap.size (W.putObj D (.deferred none)).heap.size (W.putObj D (.deferred none)) v x:=by
   obtain⟨b',c',e,hl,hr⟩:=m7;refine⟨b',c',e,hl,λL=>?_⟩;have⟨B,o,g7,fr,e1,e2,e3,e4,e5⟩:=hr L;exact⟨B,o,g7,fr,e1,by omega,qia e3 (qi1 h8 hg.size),(hg.block B (by omega) (λe=>by cases e;rw[hK] at e4;cases e4)).t e4,e5⟩
  obtain⟨vb,vc,rfl,-,-⟩:=V.cell;have⟨t4,HO⟩:=qF V ho;have HH:=qhw (qie h1 (qie h2 h3));have HT:=qhw ht;clear m7 V ho h1 h2 h3 ht
  gi_wp2
  refine⟨by simp,.inl ⟨_,_,rfl,qoB hK,?_⟩⟩;refine⟨.tuple #[.slice vb x.length vc,.bool true],by simp[qkh,qs3,go_sem,qiA,er,eb],?_,.inl ⟨x,_,?_,rfl,t4⟩⟩
  ·exact q2d n7 (by rw[<- e6];exact HO) hg (by omega)
  ·rw[HT,HH.1,qkt];rw[List.find?_append,qmp.2 (λy hy=>by rw[HH.2.1 y hy];simp)];simp[HH.out.2.2]
end
section
open Go.RowKit
def KD{n:Nat}{x:Int}(h:x∈zX n):0<=x/\x<n:=by
 simp only[zX,qmc,qkg] at h;obtain⟨i,a,rfl⟩:=h;omega
def q30(n:Nat):(zX n).Pairwise (·<·):=by
 unfold zX;rw[List.pairwise_map];exact List.pairwise_lt_range.imp λh=>by omega
def q4m{l:List Int}(h:l.Pairwise (·<·)):l.Nodup:=h.imp λh=>by omega
def Qp{l:List Int}(a:l.length<=12)(h:l.Pairwise (·<·)):Jp l l:=q8C a λi b=>by
 rw[qhG (by omega),qhG b];exact Int.le_of_lt (List.pairwise_iff_getElem.1 h i (i+1) (by omega) b (by omega))
def JI(c:List Int):List (List Int):=zB c c.length []
def q1l(d:List Par)(a:Int)(b:Bool × List Int)(c:List Int):Bool × List Int :=
 match (JI c).find? (xm d a) with
 | some p=>(true,if b.1=true/\Jd p b.2=false then b.2 else p)
 | none=>b
def yr(b:List Par)(a:Int)(L:List (List Int)):Bool × List Int:=L.foldl (q1l b a) (false,[])
def xK(b:List Par)(a:Int)(L:List (List Int))(c:List Int):yr b a (L++[c])=q1l b a (yr b a L) c:=by simp[yr]
def q8i(b:List Par)(a:Int)(B:Nat)(w0:qhy)(done:List (List Int))(G:Nat->Prop)(W:qhy):Prop :=
 G=q0y/\w0.gb W (some B)/\∃c,W.heap[B]?=some (.cells #[.func (.func 98) #[] #[],c,.bool (yr b a done).1] 108 (0,0))/\qd 0 W.heap.size W c (yr b a done).2
def qd.keptT{f g O:Nat}{w d:qhy}{v:qhC}{l:List Int}(h:qd f g w v l)(r:w.gb d (some O)){b:Array qhC}{k:qid}{t:Nat × Nat}(i:w.heap[O]?=some (.cells b k t))(a:k≠3):qd f g d v l:=by
 obtain⟨base,c,rfl,q,n⟩:=h;refine⟨base,c,rfl,q,λp=>?_⟩;have⟨B,o,A,s,z,y,x,j,u⟩:=n p;refine⟨B,o,A,s,z,y,x,blk r (λe=>?_) j,u⟩;cases e;rw[j] at i;cases i;exact a rfl
def q99(b:List Par)(a:Int)(Y B:Nat)(w0:qhy)(w:Option qj5)(u:Nat)(G:w0.heap[Y]?=some (.cells #[.slice w b.length u,a] 91 (0,0)))(a7:qn 0 w0.heap.size w0 (.slice w b.length u) b){a8:Array qhC}{f0:Nat × Nat}(M:w0.heap[B]?=some (.cells a8 108 f0))(C:YOk b a)(c:List Int)(A:c.Pairwise (·<·))(D:∀x∈c,0<=x/\x<b.length)(Z:c.length<=5)(a6:Y≠B)(done:List (List Int))(W:qhy)(hI:q8i b a B w0 done q0y W)(v:qhC)(U:qd 0 W.heap.size W v c) :qiw Ya 101 #[v,.pointer (some Y),.pointer (some B)] W λe W'=>e=.returned (.bool false)/\q8i b a B w0 (done++[c]) q0y W'/\W.gb W' (some B):=by
 obtain⟨-,h,R,hB,F⟩:=hI;obtain⟨vb,vc,rfl,-,-⟩:=U.cell;have n:W.heap[Y]?=some (.cells #[.slice w b.length u,a] 91 (0,0)):=(h.block Y (qz G) (λe=>a6 (by cases e;rfl))).t G;have H:qn 0 W.heap.size W (.slice w b.length u) b:=by
  obtain⟨b',c',e,hl,hr⟩:=a7;refine⟨b',c',e,hl,λX=>?_⟩;have⟨B',o,cs,fr,e1,e2,e3,e4,e5⟩:=hr X;cases e;exact⟨B',o,cs,fr,e1,e2,qia e3 h.size,(h.block B' e3 (λe'=>by cases e';rw[e4] at M;cases M)).t e4,e5⟩
 have c0:W.cell? Y=some (.slice w b.length u):=q8 n rfl;have c1:W.cell? ⟨Y,1,none⟩=some (.int .i64 a):=q8 n rfl;have k:=q9u (.agg #[.slice w b.length u,a]) (.slice vb c.length vc) b a c c W ⟨_,rfl,H⟩ U C (Qp (by omega) A) (λx i=>by have:=D x i;have:=C.len;omega) (q4m A) Z (λx hl hn i=>⟨λy hy=>D y (i y hy),hn,by omega⟩);have⟨S,T,r,O⟩:=zI k hB F h;clear k hB F h n H U;cases hfd:(zB c c.length []).find? (xm b a) with
 | none=>
  rw[hfd] at S;have q:=qhw hfd;clear hfd;go_enter Tp.x101,Tryz.ntmps101;go_wp2_with (go_at_call 102;refine(S).mono ?_;rintro e w2 ⟨d,⟨x,P,i,-⟩ | ⟨-,rfl⟩⟩;cases i);go_ret;have g:q1l b a (yr b a done) c=yr b a done:=by unfold q1l;rw[show(JI c).find? _=none from q]
  exact⟨rfl,⟨rfl,O.andThen d (by simp),R,by rw[xK,g];exact bk d T,by rw[xK,g];exact(r.kept d).mono (qhz _) d.size⟩,(qi2 _ _).andThen d (by simp)⟩
 | some p=>
  rw[hfd] at S;have q:=qhw hfd;clear hfd;obtain⟨s,V⟩:∃s,s=(yr b a done).1:=⟨_,rfl⟩;rw[<- V] at T;have HS:=qhw V;clear V;go_enter Tp.x101,Tryz.ntmps101;go_wp2_with (first
   | (go_at_call 102;refine(S).mono ?_;rintro e w2 ⟨d,⟨x,P,i,rfl,I⟩ | ⟨i,-⟩⟩<;>cases i;have f:=qhw d;have N:=qhw I;clear d I)
   | (go_at_call 103;refine(qaw B s R P (yr b a done).2 p w2 (bk f T) ((r.kept f).mono (qhz _) f.size) (N.mono (qix _) (qhz _))).mono ?_;rintro e l ⟨rfl,hT⟩;have z:=qhw hT;clear hT))
  go_ret;have g:q1l b a (yr b a done) c=(true,if s=true/\Jd p (yr b a done).2=false then(yr b a done).2 else p):=by unfold q1l;rw[show(JI c).find? _=some p from q,HS]
  have L:=bk f T;have i:=r.out.kept f;have gW:W.gb l (some B):=(((qi2 W (some B)).andThen f (by simp))).andThen z.1 (λj e=>.inr e);have h3:qd 0 l.heap.size l (if s=true/\Jd p (yr b a done).2=false then R else P) (if s=true/\Jd p (yr b a done).2=false then(yr b a done).2 else p):=by
   have t1:qd 0 l.heap.size l R (yr b a done).2:=(i.keptT z.1 L (by decide)).mono (qhz _) (qi1 f.size z.1.size);have t2:qd 0 l.heap.size l P p:=(N.keptT z.1 L (by decide)).mono (qix _) z.1.size;by_cases Q:s=true/\Jd p (yr b a done).2=false
   ·rw[if_pos Q,if_pos Q];exact t1
   ·rw[if_neg Q,if_neg Q];exact t2
  exact⟨rfl,⟨rfl,O.andThen gW (λj e=>.inr e),_,by rw[xK,g];exact z.2,by rw[xK,g];exact h3⟩,gW⟩
def POk.nil(b:List Par){a:Int}(h:1<=a):POk b a []:=⟨by simp,List.nodup_nil,by simp[qK];omega,by simp⟩
def q7s{n:Nat}{c:List Int}(h:c.Sublist (zX n)):c.Pairwise (·<·)/\(∀x∈c,0<=x/\x<n)/\c.length<=n :=
 ⟨(q30 n).sublist h,λx a=>KD (h.subset a),by have:=h.length_le;rwa [zN] at this⟩
def qe2{d:List Par}{a:Int}{Y B:Nat}{w0:qhy}{l:Option qj5}{j:Nat}(o:w0.heap[Y]?=some (.cells #[.slice l d.length j,a] 91 (0,0)))(p:qn 0 w0.heap.size w0 (.slice l d.length j) d){u:Array qhC}{D:Nat × Nat}(i:w0.heap[B]?=some (.cells u 108 D))(g:YOk d a)(n:Y≠B) :Cb w0.heap.size (zX d.length) 101 #[.pointer (some Y),.pointer (some B)] (q8i d a B w0):=by
 refine⟨?_,?_,enters_of Tp.x101 (by kernel_rfl) rfl,?_⟩
 ·rintro s G A C ⟨rfl,t,F,r,x⟩ b;exact⟨rfl,t.andThen b (by simp),F,bk b r,(x.kept b).mono (qhz _) b.size⟩
 ·rintro s G A ⟨rfl,-⟩ k h;exact h.elim
 ·rintro done G W v c w y - f -
  have⟨t,r,x⟩:=q7s f;obtain rfl:=w.1;refine(q99 d a Y B w0 l j o p i g c t r (by have:=g.len;omega) n done W w v y).mono ?_;rintro e I ⟨rfl,q,b⟩;have z:=qz i;exact⟨rfl,q0y,q,b.tape,b.size,λk h H _=>b.block k h (λe=>by cases e;omega),λk h=>h.elim⟩
def qbC{a:List Par}{d:Int}{Y B:Nat}{w0:qhy}{n:Option qj5}{l:Nat}(i:w0.heap[Y]?=some (.cells #[.slice n a.length l,d] 91 (0,0)))(j:qn 0 w0.heap.size w0 (.slice n a.length l) a)(f:YOk a d)(g:Y≠B)(o:w0.heap[B]?=some (.cells #[.func (.func 98) #[] #[],.slice none 0 0,.bool false] 108 (0,0))){b:Option qj5}{k:Nat}(r:qd 0 w0.heap.size w0 (.slice b a.length k) (zX a.length)) :qiw Ya 82 #[.slice b a.length k,.func (.func 101) #[] #[.pointer (some Y),.pointer (some B)]] w0 λe p=>e=.returned (.bool false)/\q8i a d B w0 (yG (zX a.length) 0) q0y p:=by
 have s:a.length<=5:=f.len;have h:=qgv (b:=b) (c:=k) (ll:=zX a.length) (qe2 i j o f g) (by rw[zN];omega) (Qp (by rw[zN];omega) (q30 _)) (by rw[zN];exact r) (G:=q0y) ⟨rfl,qi2 _ _,_,o,qd.nil _ _ _⟩;rw[zN] at h;refine h.mono ?_;rintro e p ⟨q,t,h⟩;obtain rfl:=h.1;exact⟨q,h⟩
def qbD(pv:qhC)(c:List Par)(b:Int)(w:qhy)(Q:qn 0 w.heap.size w pv c)(z:YOk c b) :qiw Ya 44 #[.agg #[pv,b]] w λe O=>∃v,e=.returned (.tuple #[v,.int .i64 0])/\w.gb O none/\qd 0 O.heap.size O v (yr c b (yG (zX c.length) 0)).2:=by
 obtain⟨N,M,rfl,b0,-⟩:=Q.cell;have⟨HP,i⟩:=qF Q z;clear Q z;go_enter Tp.x44,Tryz.ntmps44;go_upto_region 4 with(go_at_call 81;refine(kG 0 w.heap.size _ _ c b [] _ (HP.kept (qhx _ _ none)) (qd.nil _ _ _) (by simp) i (POk.nil c i.l1)).mono ?_;rintro e w2 ⟨rfl,G⟩;have X:=qhw ((qhx w (.cells #[.slice N c.length M,b] 24) none).t G);clear G);obtain⟨Y,k⟩:∃Y,Y=w2.heap.size:=⟨_,rfl⟩;obtain⟨j,g⟩:∃j,j=w2.alloc (.cells #[.slice N c.length M,b] 91):=⟨_,rfl⟩;rw[<- k,<- g];have C:j.heap[Y]?=some (.cells #[.slice N c.length M,b] 91 (0,0)):=by rw[g,k];exact qhH _ _
 have F:w.gb j none:=X.out.t (by rw[g];exact qhx _ _ none);have⟨r,L⟩:=qF C F;clear k g C F;have b7:∀(a:qj5) (R:Fn) (x y:Array qhC) (m:Mode) (w:qhy),(store a (.func R x y) m).run Ya w=stored Ya w a (.func R x y) m:=λa R x y m w=>run_store _ w a _ m rfl;go_upto_region 5 with(fail);obtain⟨B,q⟩:∃B,B=j.heap.size:=⟨_,rfl⟩;obtain⟨u,f⟩:∃u,u=j.alloc (.cells #[.func (.func 98) #[] #[],.slice none 0 0,.bool false] 108):=⟨_,rfl⟩;rw[<- q,<- f];have I:u.heap[B]?=some (.cells #[.func (.func 98) #[] #[],.slice none 0 0,.bool false] 108 (0,0)):=by rw[f,q];exact qhH _ _
 have p:j.gb u none:=by rw[f];exact qhx _ _ none
 have h:=bk p r;have P:w.heap.size<=B:=by have:=L.out.size;omega
 have⟨Z,T⟩:=qF I h;have s:=qhw (L.t p);have S:=qhw (show Y≠B by have:=qz r;omega);have c0:=q8 h (o:=0) rfl;have c1:=q8 h (o:=1) rfl;clear q f I p h r;have hn:c.length<=1000:=by have:=i.out.len;omega
 go_upto_region 6 with(first
  | (go_at_call 100;refine(vp N c.length M b u hn).mono ?_;rintro e w5 ⟨v5,rfl,D,n⟩;obtain⟨b5,k5,e5,-,-⟩:=n.cell;rw[zN] at e5;subst e5;have d:=qhw D;have V:=qhw n;clear D n)
  | (go_at_call 82;refine(qbC (bk d T) ((HP.kept (s.t d)).mono (qhz _) (s.t d).size) i S (bk d Z) (V.mono (qix _) (qhz _))).mono ?_;rintro e w6 ⟨rfl,-,A,bv,H,l⟩;obtain⟨b6,k6,rfl,-,-⟩:=l.cell;have c6:=q8 H (o:=1) rfl;have U:=qhw l;have W:=qhw A;clear l A H))
 go_wp2;go_ret2;exact⟨_,rfl,Q0 (s.t d) W P,U⟩
end
section
open Go.RowKit
def zn(lo hi B o:Nat)(w:qhy)(L:List (List Int)):Prop :=
 ∃a,w.heap[B]?=some (.cells a 29 (0,0))/\∀i,i<L.length->∃l x,L[i]?=some l/\a[o+i]?=some x/\qd lo hi w x l
def q0w:Nat->List (List Int)->List (List Int)
 | 0,L=>L
 | j+1,L=>match L[j+1]?,L[j]? with
  | some a,some b=>if QJ a b<0 then q0w j ((L.set (j+1) b).set j a) else L
  | _,_=>L
def zK(k:Nat)(L:List (List Int)):List (List Int):=(qiz k).foldl (λL i=>q0w i L) L
def xP(k:Nat)(L:List (List Int)):zK (k+1) L=q0w k (zK k L):=by simp[zK,qm5]
def qbj(j:Nat)(L:List (List Int)):(q0w j L).length=L.length:=by
 induction j generalizing L with
 | zero=>rfl
 | succ j a=>
  unfold q0w;split
  ·split
   ·rw[a];simp
   ·rfl
  ·rfl
def Yp(k:Nat)(L:List (List Int)):(zK k L).length=L.length:=by
 induction k with
 | zero=>rfl
 | succ k a=>rw[xP,qbj,a]
section
variable{lo hi B o:Nat}{w w':qhy}{L:List (List Int)}
def zn.kept{r:Option Nat}(h:zn lo hi B o w L)(f:w.gb w' r)(d:∀R,r=some R->R≠B/\(R<lo\/hi<=R):=by simp):zn lo hi B o w' L:=by
 obtain⟨k,j,g⟩:=h;refine⟨k,blk f (λe=>(d B e.symm).1 rfl) j,λi hi=>?_⟩;have⟨l,x,a,b,c⟩:=g i hi;exact⟨l,x,a,b,c.kept f λR e=>(d R e).2⟩
def zn.at{k:Nat}(h:zn lo hi B o w L)(f:k<L.length):∃l e d,L[k]?=some l/\w.cell? ⟨B,o+k,none⟩=some (.slice e l.length d)/\qd lo hi w (.slice e l.length d) l:=by
 obtain⟨j,i,g⟩:=h;have⟨l,x,a,b,c⟩:=g k f;obtain⟨e,d,rfl,-,-⟩:=c.cell;exact⟨l,e,d,a,by simp[qiA,i,b],c⟩
def zn.thaw{k:Nat}(h:zn lo hi B o w L):w.frozen? ⟨B,o+k,none⟩=false:=by
 obtain⟨c,a,b⟩:=h;exact qj a
def qd.setT{v x:qhC}{l:List Int}{k:Nat}{s:Array qhC}(h:qd lo hi w v l)(c:w.heap[B]?=some (.cells s 29 (0,0))):qd lo hi (w.setCell ⟨B,k,none⟩ x) v l:=by
 obtain⟨base,b,rfl,i,f⟩:=h;refine⟨base,b,rfl,i,λg=>?_⟩;have⟨C,o,a,j,r,q,p,d,n⟩:=f g;refine⟨C,o,a,j,r,q,p,(qji _ _ _ C (λe=>?_)).t d,n⟩;have e:C=B:=e;subst e;rw[d] at c;cases c
def zn.step{j:Nat}{y v:qhC}(h:zn lo hi B o w L)(d:w.cell? ⟨B,o+j,none⟩=some y):(w.setCell ⟨B,o+(j+1),none⟩ v).cell? ⟨B,o+j,none⟩=some y/\(w.setCell ⟨B,o+(j+1),none⟩ v).frozen? ⟨B,o+j,none⟩=false:=by
 obtain⟨c,a,-⟩:=h;have b:(w.setCell ⟨B,o+(j+1),none⟩ v).heap[B]?=some (.cells (c.setIfInBounds (o+(j+1)) v) 29 (0,0)):=by rw[qg a]
 have e:c[o+j]?=some y:=by simpa[qiA,a] using d
 exact⟨q8 b (by rw[qjj (by omega)];exact e),qj b⟩
def zn.swap{j:Nat}{a b:List Int}{x y:qhC}(h:zn lo hi B o w L)(u:L[j+1]?=some a)(I:L[j]?=some b)(s:w.cell? ⟨B,o+(j+1),none⟩=some x)(r:w.cell? ⟨B,o+j,none⟩=some y)(k:qd lo hi w x a)(g:qd lo hi w y b) :zn lo hi B o ((w.setCell ⟨B,o+(j+1),none⟩ y).setCell ⟨B,o+j,none⟩ x) ((L.set (j+1) b).set j a):=by
 obtain⟨f,c,v⟩:=h;have d:(w.setCell ⟨B,o+(j+1),none⟩ y).heap[B]?=some (.cells (f.setIfInBounds (o+(j+1)) y) 29 (0,0)):=by rw[qg c]
 have A:((w.setCell ⟨B,o+(j+1),none⟩ y).setCell ⟨B,o+j,none⟩ x).heap[B]?=some (.cells ((f.setIfInBounds (o+(j+1)) y).setIfInBounds (o+j) x) 29 (0,0)):=by rw[qg d]
 obtain⟨t,-⟩:=qic.1 u;have F:f[o+(j+1)]?=some x:=by simpa[qiA,c] using s
 have D:f[o+j]?=some y:=by simpa[qiA,c] using r
 have H:=(qhB.1 F).1;have G:=(qhB.1 D).1;refine⟨_,A,λi hi=>?_⟩;simp only[qo4] at hi;by_cases e:i=j
 ·subst e;refine⟨a,x,qmd (by rw[qo4];omega),ql9 (by rw[Array.size_setIfInBounds];omega),(k.setT c).setT d⟩
 ·by_cases C:i=j+1
  ·subst C;refine⟨b,y,by rw[qld (by omega)];exact qmd (by omega),by rw[qjj (by omega)];exact ql9 (by omega),(g.setT c).setT d⟩
  ·have⟨l,z,q,p,n⟩:=v i hi;refine⟨l,z,by rw[qld (by omega),qld (by omega)];exact q,by rw[qjj (by omega),qjj (by omega)];exact p,(n.setT c).setT d⟩
end
def q0C(lo hi B o:Nat)(c:Nat)(L:List (List Int))(w:qhy)(hI:zn lo hi B o w L)(k5:hi<=w.heap.size)(k8:L.length<=1000) :qiw Ya 188 #[.slice (some ⟨B,o,none⟩) L.length c,.int .i64 (0:Nat),L.length,.func (.func 122) #[] #[]] w λe w'=>e=.returned (.tuple #[])/\w.gb w' (some B)/\zn lo hi B o w' (zK L.length L):=by
 have HI:=qhw hI;have g9:(L.length:Int)<=1000:=by omega
 clear hI;go_enter Tp.x188,Tryz.ntmps188;go_wp2;go_loopw [8] (λV wr=>∃k:Nat,V=.int .i64 (k+1:Nat)/\k<=1000/\w.gb wr (some B)/\zn lo hi B o wr (zK (min (k+1) L.length) L)) (λV _=>(L.length - qj7 V).toNat)
 case atStart=>exact⟨0,rfl,by omega,qi2 _ _,by
  by_cases h:L.length=0
  ·rw[h];exact HI
  ·rw[show min (0+1) L.length=0+1 by omega,xP];exact HI⟩
 case round=>
  obtain⟨k,rfl,hk,hG,hR⟩:=hrel;have⟨HG,HR⟩:=qF hG hR;clear hG hR;by_cases g8:k+1<L.length
  ·have b9:(k:Int)+1<(L.length:Int):=by omega
   have b7:IntKind.i64.wrap ((k:Int)+1+1)=(k:Int)+1+1:=qiv _ (by omega);have e9:IntKind.i64.wrap ((k:Int)+1)=(k:Int)+1:=qiv _ (by omega);go_wp2;go_loopw [9] (λU w2=>∃(j:Nat) (i:List (List Int)),U=.int .i64 j/\j<=k+1/\q0w (k+1) (zK (min (k+1) L.length) L)=q0w j i/\i.length=L.length/\w.gb w2 (some B)/\zn lo hi B o w2 i) (λU _=>(qj7 U).toNat)
   case atStart=>exact⟨k+1,_,rfl,qhz _,rfl,Yp _ _,HG,HR⟩
   case round=>
    obtain⟨j0,i,rfl,hj,hs,F,H,G⟩:=hrel;have⟨x,y,A,g⟩:=zI hs F H G;clear hs F H G;have l:q0w (k+1) (zK (min (k+1) L.length) L)=i->∀p,w.gb p (some B)->zn lo hi B o p i->∃T,qim .i64 ((k:Int)+1+1)=.int .i64 ((T+1:Nat):Int)/\T<=1000/\w.gb p (some B)/\zn lo hi B o p (zK (min (T+1) L.length) L):=λe p h1 h2=>
     ⟨k+1,by simp,by omega,h1,by rw[show min (k+1+1) L.length=(k+1)+1 by omega,xP,<- show min (k+1) L.length=k+1 by omega,show min (k+1) L.length=k+1 by omega];rw[show min (k+1) L.length=k+1 by omega] at e;rw[e];exact h2⟩
    have n:=qhw l;clear l;cases j0 with
    | zero=>
     go_wp2_with (fail);go_quiet (fail);go_wp2;go_roundw
     case rel=>exact n x _ (A.andThen (qi _ _ none) (by simp)) (g.kept (qi _ _ none))
     case measure=>simp[qj7];omega
    | succ j=>
     have⟨a,xb,xc,X,x1,S⟩:=g.out.at (k:=j+1) (by have:=y.out;omega);have⟨b,R,Q,W,y1,P⟩:=g.out.at (k:=j) (by have:=y.out;omega);have z1:=g.out.thaw (k:=j+1);have z0:=g.out.thaw (k:=j);have d:q0w (j+1) i=if QJ a b<0 then q0w j ((i.set (j+1) b).set j a) else i:=by
      show(match i[j+1]?,i[j]? with | some a,some b=>_ | _,_=>_)=_;rw[X,W]
     have r:=λC (h:World.gb _ C none)=>Yv lo hi lo hi _ _ a b C (S.kept h) (P.kept h);generalize QJ a b=z at d r;have N:=qhw r;have g5:IntKind.i64.wrap (j:Int)=(j:Int):=qiv _ (by omega);have g7:((j:Int)+1).toNat=j+1:=by omega
     have h9:(j:Int)+1<(L.length:Int):=by omega
     have c3:(j:Int)<(L.length:Int):=by omega
     have k0:(0:Int)<=(j:Int)+1:=by omega
     have h8:(0:Int)<(j:Int)+1:=by omega
     have g6:(j:Int)+1 - 1=(j:Int):=by omega
     have XI:=qhw (qie S P);have E:=qhw (qie X W);clear r S P X W;by_cases hz:z<0
     ·rw[if_pos hz] at d;have u:=qhw d;clear d;go_wp2_with (fail);go_quiet (first | (go_at_call 122;refine qk7 ((N _ (qi _ _ none)).mono (λe p h=>⟨h.1,h.2.symm⟩))));go_upto_region 6 with(fail);have q:=qi wr nq none;generalize wr.drewN nq=wa at q ⊢;have f:wr.gb wa.drew none:=q.t (q9 wa none);have M:=g.out.kept f;have x2:=f.cl x1;have D:=f.cl y1;have Z:=qhw (M.swap E.1 E.2 x2 D (XI.1.kept f) (XI.2.kept f));have a6:=qhw (((A.andThen f (by simp)).andThen (qf _ B (o+(j+1)) (.slice R b.length Q)) (λj e=>.inr e)).andThen (qf _ B (o+j) (.slice xb a.length xc)) (λj e=>.inr e));have z2:=M.thaw (k:=j+1);have O:=M.thaw (k:=j);have s:=M.step (v:=.slice R b.length Q) D;have I:=qhw s;have z4:=s.2;clear M s x1 y1 z1 z0 q f;refine qr 16 (λw'=>w'.cell? ⟨B,o+j,none⟩=some (.slice R b.length Q)/\w'.frozen? ⟨B,o+j,none⟩=false) (by kernel_rfl) (by kernel_rfl) ⟨D,O⟩ (λhHeld=>?_);simp only[qi3,qi7,qii,qiB,qib,qij,qik,qiq,qin,qi9];refine tk 0 (h:=tk 1 (h:=tk 2 (h:=tk 3 (h:=tk 4 (h:=tk 5 (h:=tk 6 (h:=tk 7 (h:=tk 8 (h:=tk 9 (h:=tk 10 (h:=tk 11 (h:=tk 12 (h:=?_)))))))))))));try go_frame
      refine rdc 13 λK Y=>?_;go_simp;refine Y.out _ _ (by first | exact hHeld | exact⟨D,O⟩ | exact I) (λhHeld=>?_);refine tk 14 (h:=?_);try go_frame
      refine rdc 15 λK Y=>?_;go_simp;refine Y.out _ _ (by first | exact hHeld | exact⟨D,O⟩ | exact I) (λhHeld=>?_);try go_frame
      refine⟨by kernel_rfl,?_⟩;simp only[qig,qit];go_wp2;refine⟨?_,?measure⟩
      repeat apply Exists.intro
      refine⟨?rel,rfl⟩
      case rel=>exact⟨j,_,rfl,by omega,x.t u,by simp[y.out],a6,Z⟩
      case measure=>simp[qj7]
     ·rw[if_neg hz] at d;have u:=qhw d;clear d;go_wp2_with (fail);go_quiet (first | (go_at_call 122;refine qk7 ((N _ (qi _ _ none)).mono (λe p h=>⟨h.1,h.2.symm⟩))));go_wp2;refine⟨?_,?measure⟩
      repeat apply Exists.intro
      refine⟨?rel,rfl⟩
      case rel=>exact n (x.t u) _ (A.andThen (qi _ _ none) (by simp)) (g.kept (qi _ _ none))
      case measure=>simp[qj7];omega
  ·have he:min (k+1) L.length=L.length:=by omega
   rw[he] at HR;go_wp2;go_end0;exact⟨rfl,HG,HR⟩
end
section
open Go.RowKit
def qdG(g f B o c:Nat)(L:List (List Int))(d:Int)(w:qhy)(j:zn g f B o w L)(h:f<=w.heap.size)(n:L.length<=12) :qiw Ya 155 #[.slice (some ⟨B,o,none⟩) L.length c,.int .i64 (0:Nat),L.length,d,.func (.func 122) #[] #[]] w λe i=>e=.returned (.tuple #[])/\w.gb i (some B)/\zn g f B o i (zK L.length L):=by
 have p:=qhw j;clear j;go_enter Tp.x155,Tryz.ntmps155;go_wp2;go_loopw [1,2,3] (λa b c wr=>a=.int .i64 (0:Nat)/\b=.int .i64 L.length/\c=.int .i64 d/\w=wr) (λ_ _ _ _=>0)
 case atStart=>exact⟨rfl,rfl,rfl,rfl⟩
 case round=>
  obtain⟨rfl,rfl,rfl,rfl⟩:=hrel;have s:IntKind.i64.wrap (L.length:Int)=(L.length:Int):=qiv _ (by omega);have r:(L.length:Int)<=12:=by omega
  go_wp2_with (go_at_call 188;refine(q0C g f B o c L _ p h (by omega)).mono ?_;rintro e q ⟨rfl,l,k⟩);refine qjw (results_none rfl _ _ _) rfl ?_;exact⟨rfl,l,k⟩
def qbf(d b B o c:Nat)(L:List (List Int))(w:qhy)(h:zn d b B o w L)(f:b<=w.heap.size)(a:L.length<=12) :qiw Ya 121 #[.slice (some ⟨B,o,none⟩) L.length c,.func (.func 122) #[] #[]] w λe g=>e=.returned (.tuple #[])/\w.gb g (some B)/\zn d b B o g (zK L.length L):=by
 have l:=qhw h;have n:IntKind.u64.wrap (L.length:Int)=(L.length:Int):=by simp[IntKind.wrap,IntKind.signed,IntKind.bits];omega
 clear h;go_enter Tp.x121,Tryz.ntmps121;go_wp2_with (first
  | (go_at_call 156;refine(Yx L.length a _).mono ?_;rintro e i ⟨v,rfl,rfl⟩)
  | (go_at_call 155;refine(qdG d b B o c L _ _ l f a).mono ?_;rintro e i ⟨rfl,k,j⟩))
 go_end0;exact⟨rfl,k,j⟩
def JE(z G:Nat)(v:qhC)(l:List Int)(w:qhy)(q:qd z G w v l)(r:∀x∈l,0<=x/\x<5) :qiw Ya 123 #[v] w λe t=>e=.returned (.int .u8 (qW l:Nat))/\w=t:=by
 obtain⟨b,c,rfl,F,p⟩:=q.cell;have⟨N,s⟩:=qF p r;clear p r q;go_enter Tp.x123,Tryz.ntmps123;go_wp2;go_loopw [3,9] (λu g wr=>∃k:Nat,g=.int .i64 k/\u=.int .u8 (qW (l.take k):Nat)/\k<=l.length/\w=wr) (λ_ g _=>(l.length - qj7 g).toNat)
 case atStart=>exact⟨0,rfl,rfl,by omega,rfl⟩
 case round=>
  obtain⟨k,rfl,rfl,P,rfl⟩:=hrel;by_cases a:k<l.length
  ·obtain⟨B,o,rfl,L,I,H,d⟩:=N.out (by intro e;rw[e] at a;simp at a);obtain⟨x,f⟩:∃x,l[k]?=some x:=⟨_,qhG a⟩;have i:=d k a;rw[f] at i;simp only[qi0] at i;have⟨D,C⟩:=s.out x (qih f);obtain⟨n,rfl⟩:∃n:Nat,x=(n:Int):=⟨x.toNat,by omega⟩;have hm:qW (l.take k)<32:=vw _ 5 λy A=>by have:=s.out y (qmw A);omega
   have h:=JL l k n f;have j:(k:Int)<(l.length:Int):=by omega
   generalize qW (l.take k)=m at hm h ⊢;have M:=qhw h;clear h d f;go_wp2_with (go_at_call 151;refine(ZQ m n _ hm (by omega)).mono ?_;rintro e O ⟨rfl,rfl⟩);go_roundw
   case rel=>exact⟨k+1,by simp,by rw[M,Int.toNat_natCast],by omega,by first | rfl | trivial⟩
   case measure=>simp[qj7];omega
  ·obtain rfl:k=l.length:=by omega
   go_wp2;go_ret;exact⟨by rw[qjt];rfl,by first | rfl | trivial⟩
end
section
open Go.RowKit Go.Shelf
attribute [local go_sem] Oper.semAt_some
def q4g(a:List Par)(c:List Int):List (List Int):=(JI c).filter λo=>!o.isEmpty && qw a (pre Par.mx a a.length) o
def vW(a:List Par)(L:List (List Int)):List (List Int):=L.flatMap (q4g a)
def q6m(a:List Par)(L:List (List Int))(c:List Int):vW a (L++[c])=vW a L++q4g a c:=by simp[vW]
def qff(b:Nat)(L:List (List Int))(a:List qhC)(G:Nat->Prop)(W:qhy):Prop :=
 ∀i,i<L.length->∃l x,L[i]?=some l/\a[i]?=some x/\qd b W.heap.size W x l/\∀B o n c,x=.slice (some ⟨B,o,none⟩) n c->l≠[]->G B
structure Js(Sg:Nat)(w0:qhy)(L:List (List Int))(G:Nat->Prop)(W:qhy):Prop where
 os:W.os=w0.os
 tape:W.tape=w0.tape
 output:W.output=w0.output
 size:w0.heap.size<=W.heap.size
 keep:∀k,k<w0.heap.size->k≠Sg->W.heap[k]?=w0.heap[k]?
 lt:∀k,G k->w0.heap.size<=k/\k<W.heap.size
 sl:Sg<w0.heap.size
 sg:∃sv vals,W.heap[Sg]?=some (.cells #[sv] 36 (0,0))/\W.ownsRow w0.heap.size 29 1 sv L.length vals/\(∀g,sv.ownBlock=some g->G g)/\qff w0.heap.size L vals G W
def q28{d:Nat}{A C:qhy}{x:qhC}{l:List Int}(h:qd d A.heap.size A x l)(s:A.heap.size<=C.heap.size)(i:∀B o n c,x=.slice (some ⟨B,o,none⟩) n c->l≠[]->C.heap[B]?=A.heap[B]?):qd d C.heap.size C x l:=by
 obtain⟨base,b,rfl,g,f⟩:=h;refine⟨base,b,rfl,g,λa=>?_⟩;have⟨B,o,r,j,e,q,u,p,k⟩:=f a;exact⟨B,o,r,j,e,q,by omega,(i B o _ _ (by rw[e]) a).t p,k⟩
def jT{i e f:Nat}{A C:qhy}{v:qhC}{n:Nat}{d:List qhC}(h:A.ownsRow i e f v n d)(k:∀g,v.ownBlock=some g->C.heap[g]?=A.heap[g]?):C.ownsRow i e f v n d:=by
 obtain⟨p,a⟩:=h;refine⟨p,?_⟩;rcases a with a | ⟨g,c,b,rfl,o,l,j⟩
 ·exact .inl a
 ·exact .inr ⟨g,c,b,rfl,o,(k g (by simp[qiF])).t l,j⟩
def Jz{n1 B:Nat}{G:Nat->Prop}{A C:qhy}(a:A.gb C none):Stp n1 B G A C:=⟨a.os,a.tape,a.output,a.size,λk b _=>a.block k b (by simp)⟩
def Js.stp{u:Nat}{w0:qhy}{L:List (List Int)}{G:Nat->Prop}{A C:qhy}{v B:Nat}(h:Js u w0 L G A)(b:Stp v B G A C)(P:w0.heap.size<=v)(Q:w0.heap.size<=B):Js u w0 L G C:=by
 have f:=h.sl;have z:=h.size;have p:=b.size;have q:∀k,k<w0.heap.size->C.heap[k]?=A.heap[k]?:=λk q=>b.keep k (by omega) (.inl ⟨by omega,by omega⟩);have⟨y,d,I,H,r,F⟩:=h.sg;refine⟨b.os.trans h.os,b.tape.trans h.tape,b.output.trans h.output,by omega,λk j a=>(q k j).t (h.keep k j a),λk w=>⟨(h.lt k w).1,by have:=(h.lt k w).2;omega⟩,f,y,d,(q u f).t I,jT H λg e=>b.keep g (h.lt g (r g e)).2 (.inr (r g e)),r,λi D=>?_⟩;have⟨l,x,O,N,M,s⟩:=F i D;exact⟨l,x,O,N,q28 M p λB o n c e a=>b.keep B (h.lt B (s B o n c e a)).2 (.inr (s B o n c e a)),s⟩
def Js.push{j:Nat}{w0:qhy}{L:List (List Int)}{G:Nat->Prop}{W E C:qhy}{q r:qhC}{b:List qhC}{x:qhC}{l:List Int}(h:Js j w0 L G W)(h1:W.heap[j]?=some (.cells #[q] 36 (0,0)))(h2:W.ownsRow w0.heap.size 29 1 q L.length b)(M:∀g,q.ownBlock=some g->G g)(h4:qff w0.heap.size L b G W)(v:W.gb E q.ownBlock)(F:E.ownsRow w0.heap.size 29 1 r (L.length+1) (b++[x]))(hv:∀g,r.ownBlock=some g->q.ownBlock=some g\/W.heap.size<=g)(z:∀g,r.ownBlock=some g->g<E.heap.size)(hx:qd W.heap.size E.heap.size E x l)(X:C=E.setCell j r) :Js j w0 (L++[l]) (λk=>G k\/(W.heap.size<=k/\k<C.heap.size)) C/\∀n B,j<n->j≠B->Bod n B G (λk=>G k\/(W.heap.size<=k/\k<C.heap.size)) W C:=by
 have h5:b.length=L.length:=by have:=h2.1;omega
 have s:∀y m g,q.ownBlock=some g->qd w0.heap.size W.heap.size W y m->∀B o n c,y=.slice (some ⟨B,o,none⟩) n c->m≠[]->B≠g:=by
  rintro y m g f ⟨base,cap,rfl,R,D⟩ B o n c e a rfl;have⟨B',o',cs,Y,w,O,N,p,Z⟩:=D a;cases e;cases w;rcases h2.2 with⟨rfl,_⟩ | ⟨g',b0,d7,rfl,hb,T,_⟩
  ·simp[qiF] at f
  ·obtain rfl:g'=B:=by simpa[qiF] using f
   rw[T] at p;cases p
 have Q:=h.sl;have b7:=h.size;have b9:=v.size;have d:=qf E j 0 r;rw[<- X] at d;have c3:C.heap.size=E.heap.size:=by rw[X];simp[qki]
 have V:E.heap[j]?=some (.cells #[q] 36 (0,0)):=(v.block j (by omega) (λe=>by have:=(h.lt _ (M _ e.symm)).1;omega)).t h1;have U:C.heap[j]?=some (.cells #[r] 36 (0,0)):=by rw[X,qg V];rfl
 have H:∀k,k<W.heap.size->k≠j->q.ownBlock≠some k->C.heap[k]?=W.heap[k]?:=λk H a s=>(d.block k (by omega) (by intro e;cases e;exact a rfl)).t (v.block k H (λe=>s e.symm));refine⟨⟨d.os.trans (v.os.trans h.os),d.tape.trans (v.tape.trans h.tape),d.output.trans (v.output.trans h.output),by omega,λk u a=>?_,λk f=>?_,Q,r,b++[x],U,?_,λg e=>?_,λi hi=>?_⟩,λn B hn hB=>⟨d.tape.trans v.tape,by omega,λk u hc f=>?_,λk f=>f.imp id λe=>e.1⟩⟩
 ·rw[H k (by omega) a (λe=>by have:=(h.lt _ (M _ e)).1;omega)];exact h.keep k u a
 ·rcases f with f | f
  ·exact⟨(h.lt k f).1,by have:=(h.lt k f).2;omega⟩
  ·omega
 ·rw[qjm,qov];exact jT F λg e=>d.block g (z g e) (by
   intro P;cases P;rcases hv _ e with h' | h'
   ·have:=(h.lt _ (M _ h')).1;omega
   ·omega)
 ·rcases hv g e with h' | h'
  ·exact .inl (M g h')
  ·exact .inr ⟨h',by have:=z g e;omega⟩
 ·by_cases I:i<L.length
  ·have⟨m,y,w,O,N,p⟩:=h4 i I;refine⟨m,y,by rw[qiD I];exact w,by rw[qiD (by omega)];exact O,q28 N (by omega) λB o n c e a=>H B (h.lt B (p B o n c e a)).2 (λP=>by have:=(h.lt B (p B o n c e a)).1;omega) (λP=>s y m _ P N B o n c e a rfl),λB o n c e a=>.inl (p B o n c e a)⟩
  ·have S:i=L.length:=by simp at hi;omega
   subst S;refine⟨l,x,by simp,by rw[<- h5];simp,?_,λB o n c e a=>.inr ?_⟩
   ·obtain⟨base,cap,rfl,R,D⟩:=hx;refine⟨base,cap,rfl,R,λa=>?_⟩;have⟨B,o,cs,Y,w,O,N,p,Z⟩:=D a;exact⟨B,o,cs,Y,w,by omega,by omega,(d.block B (by omega) (by intro e;cases e;omega)).t p,Z⟩
   ·obtain⟨base,cap,rfl,R,D⟩:=hx;have⟨B',o',cs,Y,w,O,N,p,Z⟩:=D a;cases e;cases w;omega
 ·refine H k u (λe=>by rcases hc with h' | h'<;>omega) (λe=>f (M k e))
end
section
open Go.RowKit Go.Shelf
attribute [local go_sem] Oper.semAt_some
def Tp.info29p:(Ya.info? 29).map (λi=>(i.zero,i.size,i.bytes))=some (some (.slice none 0 0),1,24):=by kernel_rfl
def Tp.und36:Ya.underlying 36=some (.slice 29):=by rw[Tp.und];exact Tryz.underlying36
def qch(b:List Par)(q:Int)(Y j:Nat)(w0:qhy)(yb:Option qj5)(yc:Nat)(X:w0.heap[Y]?=some (.cells #[.slice yb b.length yc,q] 91 (0,0)))(s1:qn 0 w0.heap.size w0 (.slice yb b.length yc) b){s5:Array qhC}{f0:Nat × Nat}(d6:w0.heap[j]?=some (.cells s5 36 f0))(k7:YOk b q)(c:List Int)(k5:c.Pairwise (·<·))(r6:∀x∈c,0<=x/\x<b.length)(r7:c.length<=5)(q5:∀x:List Int,x.length=c.length->x.Nodup->(∀y∈x,y∈c)->POk b q x)(L0:List (List Int))(hL:L0.length+(JI c).length<=1000)(G0:Nat->Prop)(S:qhy)(hI:Js j w0 L0 G0 S)(v:qhC)(hv:qd 0 S.heap.size S v c) :qiw Ya 120 #[v,.pointer (some Y),.pointer (some j)] S λe W'=>e=.returned (.bool false)/\∃G',Js j w0 (L0++q4g b c) G' W'/\Bod w0.heap.size w0.heap.size G0 G' S W':=by
 have⟨i0,r4,p3,n9,n8⟩:=qk1 Tp.info29p;obtain⟨base,Q,rfl,x7,-⟩:=hv.cell;have r9:Y≠j:=λe=>by rw[e,d6] at X;cases X
 obtain⟨gx,c8⟩:∃gx,gx=pre Par.mx b b.length:=⟨_,rfl⟩;obtain⟨F,P⟩:∃F,F=S.heap.size:=⟨_,rfl⟩;have q0:q4g b c=(JI c).filter λo=>!o.isEmpty && qw b gx o:=by rw[c8];rfl
 rw[q0];have x0:=hI.size;refine(qkx (n:=6)).1 ?_;refine qpc Tp.x120 rfl trivial ?_ rfl;simp only[Tryz.ntmps120,qiu,qi3,qi7,qii,qiB,qij,qik,qiq,qlm,qin,qi9]
 gi_wp2_with (refine⟨trivial,?_⟩;gi_at_call 117;refine(qkx.2 (Kz _ _ _ _)).mono ?_;rintro e w2 ⟨rfl,rfl⟩)
 obtain⟨U,H⟩:∃U,U=S.alloc (.cells #[.slice base c.length Q] 29):=⟨_,rfl⟩;rw[<- H,<- P];have N:S.gb U none:=by rw[H];exact qhx _ _ none
 have x4:U.heap.size=F+1:=by rw[H,qi6,P]
 have l3:U.heap[F]?=some (.cells #[.slice base c.length Q] 29 (0,0)):=by rw[H,P];exact qhH _ _
 have s2:=(hv.kept N).mono (qhz _) N.size;have v2:=hI.sl;have s3:Js j w0 L0 G0 U:=hI.stp (Jz (n1:=w0.heap.size) (B:=w0.heap.size) N) (qhz _) (qhz _);have r3:¬ G0 F:=λh=>by have:=(hI.lt _ h).2;omega
 have v1:w0.heap.size<=F:=by omega
 have v0:S.heap.size<=F:=by omega
 have⟨t8,a6,HI,u0,HL⟩:=Zc c8 P hI N hL;clear c8 P H hv N hL;refine vL rfl (by omega) (gf:=149) (lb:=#[.pointer (some F)]) rfl trivial (enters_of Tp.x149 (by kernel_rfl) rfl)
  (J6 5 F base Q c c (Qp (by omega) k5) (λx hx=>by have:=r6 x hx;have:=k7.len;omega) (q4m k5) r7 U l3 s2) (qoa _ _) (λ_=>rfl) (G0:=G0) r3 (by omega) (q7m)
  (λpr G W=>Js j w0 (L0++(pr.map qma).filter λo=>!o.isEmpty && qw b gx o) G W/\Bod w0.heap.size w0.heap.size G0 G S W)
  (λ_ _ _ _=>False)
  (λs G A h k hk=>(h.1.lt k hk).2)
  (λs G A C h d=>⟨h.1.stp d (by omega) (by omega),d.tape.trans h.2.tape,qi1 h.2.size d.size,λk hk hc hg=>(d.keep k (qia hk h.2.size) (.inl ⟨by have:=a6.out;omega,by have:=a6.out;omega⟩)).trans (h.2.keep k hk hc hg),h.2.fp⟩)
  (λ_ _ _ _ _ h _=>h)
  ⟨by simpa using s3,jX u0⟩
  (λx=>{ tmps:=#[.slice base c.length Q,.pointer (some Y),.pointer (some j),qhE,.bool false,x.2,.slice base c.length Q,.func (.func 149) #[] #[.pointer (some F)],x.2,qhE,qhE,qhE,qhE,qhE,qhE,qhE,qhE,qhE,qhE,qhE,qhE,qhE],defers:=[] }) ?assign ?body ?done ?stop
 case assign=>
  intro l x W K w
  gi_wp2
  exact w
 case body=>
  rintro l pr G x W ⟨O,hb⟩ hx ⟨t,ht⟩;have M:(L0++(pr.map qma).filter λo=>!o.isEmpty && qw b gx o).length<=1000:=by
   have h1:=qko (λo=>!o.isEmpty && qw b gx o) (pr.map qma);have h2:=congrArg List.length ht;have h3:=HL.out;unfold JI at h3;simp only[qjm,qlB,qov] at h1 h2 ⊢;omega
  have x3:=O.size;have b9:=(O.keep Y (qz X) r9).trans X;have l6:qn 0 W.heap.size W (.slice yb b.length yc) b:=by
   obtain⟨b',c',e,hl,hr⟩:=s1;refine⟨b',c',e,hl,λr=>?_⟩;have⟨B,o,cs,fr,e1,e2,e3,e4,e5⟩:=hr r;exact⟨B,o,cs,fr,e1,e2,by omega,(O.keep B e3 (λe=>by cases e;rw[e4] at d6;cases d6)).trans e4,e5⟩
  obtain⟨V,p⟩:=hx;have I:=q5 x.1 p.1 p.2.1 p.2.2.1;have p5:x.1.length<=5:=by have:=p.1;omega
  obtain⟨f,x2⟩:=x;obtain⟨xb,xc,h9,-,-⟩:=V.cell;dsimp only at h9 I p5 p;subst h9;have c1:W.cell? Y=some (.slice yb b.length yc):=q8 b9 rfl;have c2:W.cell? ⟨Y,1,none⟩=some (.int .i64 q):=q8 b9 rfl;obtain⟨z,hz⟩:∃z,z=qw b gx f:=⟨_,rfl⟩;have k9:qiw Ya 114 #[.agg #[.slice yb b.length yc,q],.slice xb f.length xc] W λe w'=>e=.returned (.bool z)/\W.gb w' none:=by
   rw[hz,t8];exact q38 0 W.heap.size _ _ b q f W ⟨_,rfl,l6⟩ V (qhz _) k7 I
  have⟨m6,HZ⟩:=qF k9 hz;have s9:=qhw (show qd 0 W.heap.size W (.slice xb f.length xc) f from V);have⟨A6,T,HB,m5⟩:=zI p O hb M;clear k9 hz V p O hb b9 l6 I ht M;by_cases r:f=[]
  ·subst r
   gi_wp2
   refine⟨trivial,?_⟩
   gi_wp2
   refine⟨G,jX (qi2 _ _),?_,HB⟩;rw[qk0,qlF];simpa using T.out
  ·have u9:0<f.length:=qm9.2 r;have k8:f.isEmpty=false:=by cases f<;>simp_all
   have t4:=qhw r;clear r;cases z with
   | false=>
    gi_wp2_with (refine⟨trivial,?_⟩;gi_at_call 114;refine(CallsIn.inRound l (qkx.2 m6)).mono ?_;rintro e w5 ⟨rfl,u⟩)
    refine⟨G,jX u,?_,HB.trans (jX u)⟩;rw[qk0,qlF];simpa[k8,<- HZ.out] using T.out.stp (Jz (n1:=w0.heap.size) (B:=w0.heap.size) u) (qhz _) (qhz _)
   | true=>
    have⟨sv,g9,q1,q2,q3,q4⟩:=T.out.sg;generalize d7:(L0++(pr.map qma).filter λo=>!o.isEmpty && qw b gx o)=LL at q2 q4;rw[d7] at T m5;have t5:=qhw d7;clear d7;obtain⟨sa,sn,sc,rfl⟩:=zi q2;have x6:=m5.out;have l5:j<W.heap.size:=by omega
    have q7:(qiH sa sn sc).ownBlock≠some j:=λe=>by have:=(T.lt _ (q3 _ e)).1;omega
    gi_wp2_with (refine⟨trivial,?_⟩;gi_at_call 114;refine(CallsIn.inRound l (qkx.2 m6)).mono ?_;rintro e w5 ⟨rfl,u⟩;have i:=qhw (u.trans (q9 w5 none));clear u)
    have s0:w5.drew.cell? j=some (.slice sa sn sc):=q8 (bk i q1) rfl;have⟨m4,m3,e6,t2⟩:=zI q1 q2 q3 q4;clear q1 q2 q3 q4;refine q0p (by rintro⟨_,_,h⟩;exact h) (by kernel_rfl) 5 (λw'=>w'.cell? j=some (.slice sa sn sc)) (by kernel_rfl) (by kernel_rfl) s0 (λhHeld=>?_);simp only[qi3,qi7,qii,qiB,qib,qij,qik,qiq,qin,qi9];refine tk 0 (h:=tk 1 (h:=?_));try go_frame
    refine rdc 2 λK w=>?_;go_simp;go_at_call 84;refine(JW 0 w5.drew.heap.size _ f _ ((s9.kept i).mono (qhz _) i.size) (qhz _) (.inl t4) (by omega)).mono ?_;rintro e w6 ⟨v',rfl,d5,d8⟩;obtain⟨vb,vc,rfl,-,-⟩:=d8.cell;have s6:=d5.cl s0;have⟨Z,t7⟩:=qF d5 d8;clear d5 d8;refine w.out _ _ (by first | exact hHeld | exact s7 | exact s6 | exact(qhx _ _ none).cl hHeld) (λhHeld=>?_);clear w K;try go_frame
    refine rdc 3 λK w=>?_;go_simp;refine w.out _ _ (by first | exact hHeld | exact s7 | exact s6 | exact(qhx _ _ none).cl hHeld) (λhHeld=>?_);clear w K;try go_frame
    refine rdc 4 λK w=>?_;have l7:=jT (C:=w6) m3 (λg e=>(i.trans Z).block g (T.lt g (e6 g e)).2 (by simp));refine qn0 _ (by rfl) _ _ _ (by rfl) w0.heap.size 29 i0 _ 1 24 Tp.und36 r4 p3 n9 n8 rfl (by omega) (.slice sa sn sc) LL.length g9 (by rfl) (by exact l7.alloc _) ⟨w6.heap.size,0,none⟩ 1 1 [.slice vb f.length vc] (by rfl) (by rfl) (qjh (cs:=#[.slice vb f.length vc]) (t:=29) (fr:=(0,0)) (qhH w6 _)) (by simp[qjF]) (by omega) (by unfold qlc;omega) (by omega) (by have:=i.out.size;have:=Z.out.size;simp;omega) (w6.heap.size+1) (by simp) ?_;intro g' cp w7 L a b6 b0;have c9:W.gb w7 (qiH sa sn sc).ownBlock:=(((i.trans Z).trans (qhx w6 (.cells #[.slice vb f.length vc] 29) none)).but _).trans ⟨a.os,a.tape,a.output,a.size,a.block⟩;have c3:w7.heap[j]?=some (.cells #[.slice sa sn sc] 36 (0,0)):=(c9.block j l5 (λe=>q7 e.symm)).trans m4;have s7:w7.cell? j=some (.slice sa sn sc):=q8 c3 rfl;have z7:w7.frozen? ⟨j,0,none⟩=false:=qj c3;have h6:(w6.alloc (.cells #[.slice vb f.length vc] 29)).gb w7 (qiH sa sn sc).ownBlock:=a;have k0:qd W.heap.size w7.heap.size w7 (.slice vb f.length vc) f:=(((t7.alloc (.cells #[.slice vb f.length vc] 29)).mono i.size (qhz _)).kept h6 (λR e=>.inl (T.lt R (e6 R e.symm.symm)).2)).mono (qhz _) (by have:=h6.size;rw[qi6] at this;omega);have⟨t1,t3,t9,u5,t6⟩:=Zc k0 L c9 b6 b0;clear L a b6 b0 h6 k0 c3 c9 l7;refine w.out _ _ (by first | exact hHeld | exact s7 | exact s6 | exact(qhx _ _ none).cl hHeld) (λhHeld=>?_);clear w K;try go_frame
    refine⟨by kernel_rfl,?_⟩;simp only[qig,qit];go_wp2;have⟨q6,k6⟩:=T.out.push m4 m3 e6 t2 t9 t3 (λg e=>by
     obtain rfl:g'=g:=by simpa[qiF] using e
     rcases u5 with h | h
     ·exact .inl h
     ·right;have:=i.out.size;have:=Z.out.size;omega) (λg e=>by
     obtain rfl:g'=g:=by simpa[qiF] using e
     exact t6) t1 rfl
    refine⟨_,k6 U.heap.size F (by omega) (by omega),?_,HB.trans (k6 _ _ (by omega) (by omega))⟩;rw[qk0,qlF,<- qkt,t5];simpa[k8,<- HZ.out] using q6
 case done=>
  rintro D ys G W hD h8 ⟨O,hb⟩ w l9;have⟨T,HB,s8⟩:=qY O hb h8;clear O hb h8
  gi_wp2
  have d:Stp U.heap.size F G W (W.putObj D (.deferred none)):=kP _ hD l9;have p9:=HB.out.size;have O:=T.out.stp d (by omega) (by omega);rw[s8] at O;refine⟨by simp,.inl ⟨_,_,rfl,qoB w,?_⟩⟩;refine⟨.bool false,by simp[qkh,Tryz.results120,go_sem],rfl,G,O,d.tape.trans HB.tape,qi1 p9 d.size,λk hk hc hg=>(d.keep k (by omega) (.inl ⟨by have:=a6.out;omega,by have:=a6.out;omega⟩)).trans (HB.keep k hk hc hg),HB.fp⟩
 case stop=>
  rintro D c pr G W hD ⟨t,ht⟩ h w l9;exact h.elim
end
section
open Go.RowKit
abbrev Rec:=List (List Int) × Nat
def Yr(l:List Int):Int:=l[0]?.getD 0
def q83(L:List (List Int)):List Int:=L[L.length - 1]?.getD []
def okF(p:Rec)(s:List Int):Bool:=!(decide (0<p.1.length) && decide (Yr s<=Yr (q83 p.1))) && decide (p.2 &&& qW s=0)
def Zd(p:Rec)(s:List Int):Rec:=(p.1++[s],p.2 ||| qW s)
def ju(S:List (List Int))(a:List Rec):List Rec:=a.flatMap λp=>(S.filter (okF p)).map (Zd p)
def qcg:Nat->List (List Int)->Nat->List Rec->Option (Option (List (List Int)))
 | 0,_,_,_=>none
 | n+1,S,all,a=>match a.find? λp=>p.2 == all with
  | some p=>some (some p.1)
  | none=>if(ju S a).length<=1000 then(if ju S a=[] then some none else qcg n S all (ju S a)) else none
def xw(w:qhy)(b d:qhC)(p:Rec):Prop:=RowsIn 0 w.heap.size w b p.1/\d=.int .u8 (p.2:Nat)/\∀a n c,b=.slice a n c->n<=c
def QL(w:qhy)(v:qhC)(R:List Rec):Prop :=
 ∃base b,v=.slice base R.length b /\
  (R≠[]->∃B o a e,base=some ⟨B,o,none⟩/\B<w.heap.size/\w.heap[B]?=some (.cells a 133 e) /\
   ∀i,i<R.length->∃p d c,R[i]?=some p/\a[o+i*2]?=some d/\a[o+(i*2+1)]?=some c/\xw w d c p)
def xw.kept{w w':qhy}{e d:qhC}{p:Rec}(h:xw w e d p)(a:w.gb w' none):xw w' e d p:=⟨(h.1.kept a).mono (qhz _) a.size,h.2⟩
def QL.at{w:qhy}{base:Option qj5}{d k:Nat}{R:List Rec}(h:QL w (.slice base R.length d) R)(b:k<R.length):∃B o p a n c,base=some ⟨B,o,none⟩/\R[k]?=some p/\n=p.1.length/\w.cell? ⟨B,o+k*2,none⟩=some (.slice a n c)/\w.cell? ⟨B,o+k*2+1,none⟩=some (.int .u8 (p.2:Nat))/\RowsIn 0 w.heap.size w (.slice a n c) p.1/\n<=c:=by
 obtain⟨f,j,e,l⟩:=h;cases e;have⟨B,o,z,x,v,y,i,u⟩:=l (by intro e;rw[e] at b;simp at b);obtain⟨p,C,A,t,s,r,g,rfl,q⟩:=u k b;obtain⟨a,c,rfl,-,-⟩:=g.cell;exact⟨B,o,p,a,_,c,v,t,rfl,by simp[qiA,i,s],by rw[qnF];simp[qiA,i,r],g,q _ _ _ rfl⟩
def JF(R:List (qhC × qhC)):List qhC:=R.flatMap λx=>[x.1,x.2]
def q7w(R:List (qhC × qhC))(i:Nat)(h:i<R.length):(JF R)[i*2]?=(R[i]?).map qma/\(JF R)[i*2+1]?=(R[i]?).map Prod.snd:=by
 induction R generalizing i with
 | nil=>simp at h
 | cons a t b=>
  cases i with
  | zero=>simp[JF]
  | succ i=>
   have:=b i (by simpa using h);rw[show(i+1)*2=i*2+2 by omega];simpa[JF] using this
def QL.own{k:Nat}{w:qhy}{v:qhC}{R:List Rec}{C:List (qhC × qhC)}(h:w.ownsRow k 133 2 v R.length (JF C))(y:C.length=R.length)(q:∀(i:Nat) (p:Rec) (x:qhC × qhC),R[i]?=some p->C[i]?=some x->xw w x.1 x.2 p):QL w v R:=by
 obtain⟨A,r⟩:=h;rcases r with⟨rfl,s⟩ | ⟨g,d,c,rfl,z,j,u,hm,t,n⟩
 ·have:R=[]:=qjq s;subst this;exact⟨none,0,rfl,λh=>absurd rfl h⟩
 ·refine⟨_,d,rfl,λ_=>⟨g,0,c,_,rfl,(qhB.1 j).1,j,λi o=>?_⟩⟩;have b:=(q7w C i (by omega)).1;have a:=(q7w C i (by omega)).2;have e:C[i]?=some C[i]:=qhG (by omega);have f:R[i]?=some R[i]:=qhG o;rw[e] at b a;rw[<- n,qjC (by omega)] at b a;refine⟨R[i],_,_,f,by simpa using b,by simpa using a,q i _ _ f e⟩
def q8G{w:qhy}{W:Option qj5}{nc B:Nat}{L:List (List Int)}{x:qhC}{l:List Int}(S:qid)(hN:RowsIn 0 w.heap.size w (.slice W L.length nc) L)(hx:w.cell? B=some x)(p:qd 0 w.heap.size w x l)(hl:L.length<=1000) :∃g c R,(qlz #[36,36] S #[.slice W L.length L.length,.slice (some B) 1 1]).run Ya w=.ok (.slice (some ⟨g,0,none⟩) (L.length+1) c) R/\w.gb R none /\RowsIn 0 R.heap.size R (.slice (some ⟨g,0,none⟩) (L.length+1) c) (L++[l])/\L.length+1<=c:=by
 have⟨X,D,z,n,u⟩:=qk1 Tp.info29p;obtain⟨k,h,rfl,-,-⟩:=p.cell;have d:∀j v,([.slice k l.length h]:List qhC)[j]?=some v->w.cell? ((⟨B,0,none⟩:qj5).add j)=some v:=λj v r=>by
  have:j=0:=by have:=(qic.1 r).1;simp at this;omega
  subst this;simp at r;subst r;simpa[Addr.add] using hx
 have s:∀(a:List qhC) (F:Array qhC) (c:Nat),a.length=L.length+1->(∀i,i<L.length+1->∃m y,(L++[l])[i]?=some m/\a[i]?=some y/\qd 0 w.heap.size w y m) ->
   RowsIn 0 (w.drew.alloc (.cells (a.toArray++F) 29)).heap.size (w.drew.alloc (.cells (a.toArray++F) 29)) (.slice (some w.heap.size) (L.length+1) c) (L++[l]):=by
  intro a F c I hv;have hh:(w.drew.alloc (.cells (a.toArray++F) 29)).heap[w.heap.size]?=some (.cells (a.toArray++F) 29 (0,0)):=qhH w.drew _;have hg:w.gb (w.drew.alloc (.cells (a.toArray++F) 29)) none:=(q9 w none).t (qhx _ _ none);refine⟨_,c,by simp,by simp;omega,λ_=>⟨w.heap.size,0,_,_,rfl,qix _,(qhB.1 hh).1,hh,λi f=>?_⟩⟩;have⟨m,y,O,e2,e3⟩:=hv i (by simpa using f);refine⟨m,y,O,?_,(e3.kept hg).mono (qhz _) hg.size⟩;rw[qib,qnu (by simp at f ⊢;omega)];simpa using e2
 obtain⟨base,a9,e,-,hc⟩:=hN.cell;cases e;cases W with
 | none=>
  have h0:L=[]:=by
   refine qiG λq=>?_;have⟨B,o,O,_⟩:=hc q;cases O
  subst h0;have A:=run_append_nil (P:=Ya) w 36 S 29 X _ Tp.und36 D z ⟨B,0,none⟩ 1 1 [.slice k l.length h] (by rw[n];rfl) d (by omega) (by omega) (by rw[u];omega);have:=s [.slice k l.length h] (qkl (qiH none 0 0).cells (qm4 w 1 0 29 - 1)) (qm4 w 1 0 29) (by simp) (λi f=>by
   have:i=0:=by simp at f;omega
   subst this;exact⟨l,_,by simp,by simp,p⟩)
  exact⟨_,_,_,A,(q9 w none).t (qhx _ _ none),this,QA _ _ _ _⟩
 | some b=>
  by_cases q:L=[]
  ·subst q;have A:=run_append_grow (P:=Ya) w 36 S 29 X _ Tp.und36 D z b 0 0 [] (by simp) (λj v r=>by simp at r) ⟨B,0,none⟩ 1 1 [.slice k l.length h] (by rw[n];rfl) d (by omega) (by omega) (growslice_fits (by omega) (by rw[u];omega));have:=s [.slice k l.length h] (qkl (qiH none 0 0).cells (qm4 w 1 0 29 - 1)) (qm4 w 1 0 29) (by simp) (λi f=>by
    have:i=0:=by simp at f;omega
    subst this;exact⟨l,_,by simp,by simp,p⟩)
   simp only[qin,qib] at A;exact⟨_,_,_,by simpa using A,(q9 w none).t (qhx _ _ none),by simpa using this,QA _ _ _ _⟩
  ·obtain⟨V,o,O,-,-,-,h4⟩:=hc q;cases O;obtain⟨a,I,M⟩:∃a:List qhC,a.length=L.length/\∀i,i<L.length->∃m y,L[i]?=some m/\a[i]?=some y/\w.cell? ⟨V,o+i,none⟩=some y/\qd 0 w.heap.size w y m:=by
    refine⟨(qiz L.length).map λi=>(w.cell? ⟨V,o+i,none⟩).getD qhE,by simp,λi f=>?_⟩;have⟨m,y,U,G,T⟩:=h4 i f;exact⟨m,y,U,by simp[f,G],G,T⟩
   have C:∀j v,a[j]?=some v->w.cell? ((⟨V,o,none⟩:qj5).add j)=some v:=λj v r=>by
    have Y:j<L.length:=by have:=(qic.1 r).1;omega
    have⟨m,y,U,G,T,Z⟩:=M j Y;rw[G] at r;cases r;exact jI T
   have A:=run_append_grow (P:=Ya) w 36 S 29 X _ Tp.und36 D z ⟨V,o,none⟩ L.length L.length a (by rw[n];omega) C ⟨B,0,none⟩ 1 1 [.slice k l.length h] (by rw[n];rfl) d (by omega) (by omega) (growslice_fits (by omega) (by rw[u];omega));obtain⟨Q,H⟩:∃Q,Q=qiH k l.length h:=⟨_,rfl⟩;have:=s (a++[Q]) (qkl (qiH none 0 0).cells (qm4 w (L.length+1) L.length 29 - (L.length+1))) (qm4 w (L.length+1) L.length 29) (by simp;omega) (λi f=>by
    by_cases N:i<L.length
    ·have⟨m,y,U,G,T,Z⟩:=M i N;exact⟨m,y,by rw[qiD N];exact U,by rw[qiD (by omega)];exact G,Z⟩
    ·have:i=L.length:=by omega
     subst this;exact⟨l,Q,by simp,by rw[<- I];simp,by rw[H];exact p⟩)
   rw[H] at this;have e:a.toArray++[qiH k l.length h].toArray=(a++[qiH k l.length h]).toArray:=by simp
   rw[e] at A;exact⟨_,_,_,A,(q9 w none).t (qhx _ _ none),this,QA _ _ _ _⟩
def Kh{d:Array qjx}{o:qjx}{a:Act}{w:qhy}{K:Act->qhy->Prop}{Q:Exit->Act->qhy->Prop}{E:Prop}(f:o.guard=none)(s x:qj0)(e:o.op=.call { callee:=.builtin .append,args:=#[s,x],argTypes:=#[36,36] }){nb:Option qj5}{nc B:Nat}{L:List (List Int)}{y:qhC}{l:List Int}(hs:a.eval s=.slice nb L.length L.length)(hx:a.eval x=.slice (some B) 1 1)(hN:RowsIn 0 w.heap.size w (.slice nb L.length nc) L)(hy:w.cell? B=some y)(hyi:qd 0 w.heap.size w y l)(hl:L.length<=1000)(h:∀g b c,w.gb c none->RowsIn 0 c.heap.size c (.slice (some ⟨g,0,none⟩) (L.length+1) b) (L++[l])->L.length+1<=b->K (a.put o.dst (.slice (some ⟨g,0,none⟩) (L.length+1) b)) c) :if qiy o (qjG d a.tmps)=true then Oper.wp Ya o a w K Q else E:=by
 rw[if_pos (by simp[qiy,f])];have⟨g,b,c,i,n,k,j⟩:=q8G o.type hN hy hyi hl;unfold Oper.wp ql0;simp only[e,resolve,invoke,builtin,qjz,qn8,qjv,qn1,qle,qna,hs,hx,i];exact h g b c n k j
def qg5{b:List Par}{d:Int}{Y j:Nat}{w0:qhy}{n:Option qj5}{l:Nat}(q:w0.heap[Y]?=some (.cells #[.slice n b.length l,d] 91 (0,0)))(u:qn 0 w0.heap.size w0 (.slice n b.length l) b){w:Array qhC}{Z:Nat × Nat}(r:w0.heap[j]?=some (.cells w 36 Z))(g:YOk b d)(p:∀x:List Int,x.Nodup->(∀y∈x,0<=y/\y<b.length)->POk b d x)(z:((yG (zX b.length) 0).flatMap JI).length<=1000) :Cb w0.heap.size (zX b.length) 120 #[.pointer (some Y),.pointer (some j)] (λdone G W=>Js j w0 (vW b done) G W):=by
 refine⟨?_,?_,enters_of Tp.x120 (by kernel_rfl) rfl,?_⟩
 ·intro s G A C h Q;exact h.stp (Jz (n1:=w0.heap.size) (B:=w0.heap.size) Q) (qhz _) (qhz _)
 ·exact λs G A h k P=>(h.lt k P).2
 ·rintro done G W v c T M - f ⟨t,N⟩;have⟨X,D,h3⟩:=q7s f;have i:(vW b done).length+(JI c).length<=1000:=by
   have V:∀L:List (List Int),(vW b L).length<=(L.flatMap JI).length:=by
    intro L;induction L with
    | nil=>simp[vW]
    | cons a L F=>
     have:=qko (λo:List Int=>!o.isEmpty && qw b (pre Par.mx b b.length) o) (JI a);simp only[vW,qku,qjm,q4g] at F ⊢;omega
   rw[N] at z;have h5:=V done;simp only[qqz,qku,List.flatMap_nil,qjm] at z;omega
  refine(qch b d Y j w0 n l q u r g c X D (by have:=g.len;omega) (λx _ O I=>p x O λy H=>D y (I y H)) (vW b done) i G W T v M).mono ?_;rintro e W' ⟨R,G',U,S⟩;exact⟨R,G',by rw[q6m];exact U,S⟩
def qef{a:List Par}{d:Int}{Y p:Nat}{w0:qhy}{r:Option qj5}{q:Nat}(n:w0.heap[Y]?=some (.cells #[.slice r a.length q,d] 91 (0,0)))(o:qn 0 w0.heap.size w0 (.slice r a.length q) a)(f:w0.heap[p]?=some (.cells #[.slice none 0 0] 36 (0,0)))(j:YOk a d)(l:∀x:List Int,x.Nodup->(∀y∈x,0<=y/\y<a.length)->POk a d x)(t:((yG (zX a.length) 0).flatMap JI).length<=1000){b:Option qj5}{k:Nat}(u:qd 0 w0.heap.size w0 (.slice b a.length k) (zX a.length)) :qiw Ya 82 #[.slice b a.length k,.func (.func 120) #[] #[.pointer (some Y),.pointer (some p)]] w0 λe v=>e=.returned (.bool false)/\∃w,Js p w0 (vW a (yG (zX a.length) 0)) w v:=by
 have z:a.length<=5:=j.len;have h:=qgv (b:=b) (c:=k) (ll:=zX a.length) (qg5 n o f j l t) (by rw[zN];omega) (Qp (by rw[zN];omega) (q30 _)) (by rw[zN];exact u) (G:=q0y) ⟨rfl,rfl,rfl,qhz _,λ_ _ _=>rfl,λk h=>h.elim,qz f,_,[],f,qjE _ _ _ _,λg e=>by simp[qiF] at e,λi s=>by simp[vW] at s⟩;rw[zN] at h;exact h
def Js.rows{k:Nat}{w0:qhy}{L:List (List Int)}{G:Nat->Prop}{W:qhy}(h:Js k w0 L G W)(a:L≠[])(C:L.length<=1000):∃B c,W.heap[k]?=some (.cells #[.slice (some ⟨B,0,none⟩) L.length c] 36 (0,0))/\w0.heap.size<=B/\zn w0.heap.size W.heap.size B 0 W L:=by
 have⟨w,f,s,b,D,r⟩:=h.sg;obtain⟨A,b⟩:=b;rcases b with⟨rfl,t⟩ | ⟨g,e,d,rfl,q,p,z,hm,y,n⟩
 ·exact absurd (qjq t) a
 ·refine⟨g,e,s,q,d,p,λi o=>?_⟩;obtain⟨l,x,v,j,u,-⟩:=r i o;refine⟨l,x,v,?_,u⟩;rw[<- n,qjC (by omega)] at j;simpa using j
def zn.rows{a d B o:Nat}{w:qhy}{L:List (List Int)}(h:zn a d B o w L)(e:B<d)(b:a<=B)(j:L.length<=1000)(c:Nat):RowsIn a d w (.slice (some ⟨B,o,none⟩) L.length c) L:=by
 obtain⟨i,g,f⟩:=h;exact⟨_,c,rfl,by omega,λ_=>⟨B,o,i,_,rfl,b,e,g,f⟩⟩
def qa4:∀m n:Fin 32,bits .and .u8 (m.1:Int) (n.1:Int)=((m.1 &&& n.1:Nat):Int):=by decide
def qcF:∀m n:Fin 32,bits .or .u8 (m.1:Int) (n.1:Int)=((m.1 ||| n.1:Nat):Int):=by decide
def Tp.info133p:(Ya.info? 133).map (λi=>(i.zero,i.size,i.bytes))=some (some (.agg #[.slice none 0 0,.int .u8 0]),2,32):=by kernel_rfl
def Tp.und134:Ya.underlying 134=some (.slice 133):=by rw[Tp.und];exact Tryz.underlying134
def RowsIn.keptT{k a O:Nat}{w j:qhy}{v:qhC}{L:List (List Int)}(h:RowsIn k a w v L)(n:w.gb j (some O)){f:Array qhC}{d:qid}{C:Nat × Nat}(b:w.heap[O]?=some (.cells f d C))(z:d≠3)(c:d≠29):RowsIn k a j v L:=by
 obtain⟨base,g,rfl,y,t⟩:=h;refine⟨base,g,rfl,y,λu=>?_⟩;have⟨B,o,I,A,H,G,F,p,D⟩:=t u;refine⟨B,o,I,A,H,G,F,blk n (λe=>?_) p,λi a=>?_⟩
 ·cases e;rw[p] at b;cases b;exact c rfl
 ·have⟨l,x,s,r,q⟩:=D i a;exact⟨l,x,s,r,q.keptT n b z⟩
def jO(a:Nat)(w:qhy)(v:qhC)(R:List Rec):Prop :=
 ∃C:List (qhC × qhC),w.ownsRow a 133 2 v R.length (JF C)/\C.length=R.length/\∀(i:Nat) (p:Rec) (x:qhC × qhC),R[i]?=some p->C[i]?=some x->xw w x.1 x.2 p
def jO.nil(a:Nat)(w:qhy):jO a w (.slice none 0 0) []:=⟨[],qjE _ _ _ _,rfl,λi p x h=>by simp at h⟩
def jO.recs{a:Nat}{w:qhy}{v:qhC}{R:List Rec}(h:jO a w v R):QL w v R:=by
 obtain⟨C,d,c,b⟩:=h;exact QL.own d c b
def jO.kept{a:Nat}{w w':qhy}{v:qhC}{R:List Rec}(h:jO a w v R)(d:w.gb w' none):jO a w' v R:=by
 obtain⟨C,f,k,j⟩:=h;exact⟨C,jT f λg e=>d.block g (f.lt g e).2 (by simp),k,λi p x o l=>(j i p x o l).kept d⟩
def q90(C:List (qhC × qhC))(x:qhC × qhC):JF (C++[x])=JF C++[x.1,x.2]:=by simp[JF]
def xw.app{i n:Nat}{w d:qhy}{v f e:qhC}{h:List qhC}{p:Rec}(b:xw w f e p)(j:w.ownsRow i 133 2 v n h)(a:w.gb d v.ownBlock):xw d f e p:=by
 refine⟨?_,b.2⟩;rcases j.2 with⟨rfl,_⟩ | ⟨g,l,k,rfl,o,c,_⟩
 ·exact(RowsIn.kept b.1 a (by simp[qiF])).mono (qhz _) a.size
 ·exact(RowsIn.keptT b.1 (O:=g) a c (by decide) (by decide)).mono (qhz _) a.size
def q1D(S:List (List Int))(b:List Rec):(ju S b).length<=b.length*S.length:=by
 unfold ju;induction b with
 | nil=>simp
 | cons a t c=>
  have:=qko (okF a) S;simp only[qku,qjm,qlB,qi3];rw[qp5];omega
def jO.push{e:Nat}{w d:qhy}{v j:qhC}{R:List Rec}{C:List (qhC × qhC)}{h g:qhC}{p:Rec}(t:w.ownsRow e 133 2 v R.length (JF C))(k:C.length=R.length)(s:∀(i:Nat) (p:Rec) (x:qhC × qhC),R[i]?=some p->C[i]?=some x->xw w x.1 x.2 p)(r:w.gb d v.ownBlock)(b:d.ownsRow e 133 2 j (R.length+1) (JF C++[h,g]))(l:xw d h g p):jO e d j (R++[p]):=by
 refine⟨C++[(h,g)],by rw[q90,qjm];exact b,by simp[k],λi q x a c=>?_⟩;by_cases o:i<R.length
 ·rw[qiD o] at a;rw[qiD (by omega)] at c;exact(s i q x a c).app t r
 ·have f:i=R.length:=by
   have:=(qic.1 a).1;simp at this;omega
  subst f;rw[qkb (qhz _)] at a;rw[qkb (by omega)] at c;simp[k] at a c;subst a c;exact l
def qhk(S:List (List Int))(a:List Rec):Prop:=a.length<=1000/\∀p∈a,(∀r∈p.1,r∈S)/\p.2<32/\p.1.length<=100
def q7k(S:List (List Int))(b:Nat)(R:List (List Int))(v:qhC)(w:qhy)(m:Nat):Prop:=∃a,QL w v a/\qhk S a/\(∀p∈a,p.1.length+m<=100)/\qcg m S b a=some (some R)
open Classical in
noncomputable def Yn(P:Nat->Prop):Nat->Nat
 | 0=>0
 | n+1=>if P (Yn P n) then Yn P n else n+1
def q4E(P:Nat->Prop):∀n,Yn P n<=n
 | 0=>qhz _
 | n+1=>by
  have:=q4E P n;unfold Yn;split<;>omega
def xN(P:Nat->Prop):∀n m,m<=n->P m->P (Yn P n)/\Yn P n<=m
 | 0,m,h,a=>by
  obtain rfl:m=0:=by omega
  exact⟨a,qhz _⟩
 | n+1,m,h,a=>by
  unfold Yn;split
  ·rename_i b
   refine⟨b,?_⟩;by_cases hm:m<=n
   ·exact(xN P n m hm a).2
   ·have:=q4E P n;omega
  ·rename_i b
   have:¬ m<=n:=λhm=>b (xN P n m hm a).1;obtain rfl:m=n+1:=by omega
   exact⟨a,qhz _⟩
noncomputable def q7x(S:List (List Int))(a:Nat)(R:List (List Int))(v:qhC)(w:qhy):Nat:=Yn (q7k S a R v w) 100
def q6q{S:List (List Int)}{a:Nat}{R:List (List Int)}{v:qhC}{w:qhy}{m:Nat}(hm:m<=100)(h:q7k S a R v w m):q7k S a R v w (q7x S a R v w):=(xN _ 100 m hm h).1
def q4l{S:List (List Int)}{a:Nat}{R:List (List Int)}{v:qhC}{w:qhy}{m:Nat}(hm:m<=100)(h:q7k S a R v w m):q7x S a R v w<=m:=(xN _ 100 m hm h).2
def q6v{S:List (List Int)}{a:List Rec}{k:Nat}{p:Rec}(h:a[k]?=some p):ju S (a.take (k+1))=ju S (a.take k)++(S.filter (okF p)).map (Zd p):=by
 rw[qja,h];simp[ju]
def q21{S:List (List Int)}{a:List Rec}{q:Rec}(h:q∈ju S a):∃p∈a,∃s∈S,q=Zd p s:=by
 simp only[ju,List.mem_flatMap,qmc,qpa] at h;obtain⟨p,c,s,⟨b,-⟩,rfl⟩:=h;exact⟨p,c,s,b,rfl⟩
def ZJ(z:Array qhC)(h:z.size=123):∃t:Nat->qhC,(∀(j:Nat) (v:qhC),z[j]?=some v->t j=v)/\z=#[t 0,t 1,t 2,t 3,t 4,t 5,t 6,t 7,t 8,t 9,t 10,t 11,t 12,t 13,t 14,t 15,t 16,t 17,t 18,t 19,t 20,t 21,t 22,t 23,t 24,t 25,t 26,t 27,t 28,t 29,t 30,t 31,t 32,t 33,t 34,t 35,t 36,t 37,t 38,t 39,t 40,t 41,t 42,t 43,t 44,t 45,t 46,t 47,t 48,t 49,t 50,t 51,t 52,t 53,t 54,t 55,t 56,t 57,t 58,t 59,t 60,t 61,t 62,t 63,t 64,t 65,t 66,t 67,t 68,t 69,t 70,t 71,t 72,t 73,t 74,t 75,t 76,t 77,t 78,t 79,t 80,t 81,t 82,t 83,t 84,t 85,t 86,t 87,t 88,t 89,t 90,t 91,t 92,t 93,t 94,t 95,t 96,t 97,t 98,t 99,t 100,t 101,t 102,t 103,t 104,t 105,t 106,t 107,t 108,t 109,t 110,t 111,t 112,t 113,t 114,t 115,t 116,t 117,t 118,t 119,t 120,t 121,t 122]:=by
 have a:=Z2 z;rw[h] at a;exact⟨λj=>z[j]?.getD qhE,λj v e=>by show z[j]?.getD qhE=v;rw[e];rfl,a.t rfl⟩
def swp(s:List Int)(i:Nat):List Int:=(s.set i (s[i+1]?.getD 0)).set (i+1) (s[i]?.getD 0)
def q7q(s:List Int)(i:Nat):(swp s i).length=s.length:=by simp[swp]
def ZR(a:List (List Int) × List (List Int))(m:List Int):List (List Int) × List (List Int):=if m∈a.1 then a else(a.1++[m],a.2++[m])
def exp1(n:Nat)(a:List (List Int) × List (List Int))(s:List Int):List (List Int) × List (List Int):=(qiz (n - 1)).foldl (λa i=>ZR a (swp s i)) a
def qcl(n:Nat)(K a:List (List Int)):List (List Int) × List (List Int):=a.foldl (exp1 n) (K,[])
def jG(a:List Par)(c:List (List Int)):Bool × List Int:=c.foldl (λb s=>if qw a (pre Par.mx a a.length) (zu s)=true then(true,if b.1=true/\q2f (zu s) b.2=false then b.2 else zu s) else b) (false,[])
def okS(b:List Par)(a:Int)(s:List Int):Bool:=decide (s.length=5) && (decide (zu s).Nodup && ((zu s).all (λx=>decide (0<=x/\x<b.length)) && decide (qK b (zu s)<=a)))
def Qv{b:List Par}{a:Int}{s:List Int}(h:okS b a s=true):s.length=5/\POk b a (zu s):=by
 simp only[okS,qio,decide_eq_true_eq,qje] at h;obtain⟨f,e,d,c⟩:=h;exact⟨f,d,e,c,by have:=q1a s (λy=>y != -1);unfold zu;omega⟩
def q20(c:List Par)(b:Int)(n:Nat):Nat->List (List Int)->List (List Int)->Int->Option (Option (Int × List Int))
 | 0,_,_,_=>none
 | f+1,K,a,d=>if a.all (okS c b)=true/\a.length<=1000 then
   (if(jG c a).1=true then some (some (d,(jG c a).2))
    else if(qcl n K a).2.length<=1000 then(if(qcl n K a).2=[] then some none else q20 c b n f (qcl n K a).1 (qcl n K a).2 (d+1)) else none)
  else none
def kY(L:List (List Int)):List qhC:=L.flatMap λs=>s.map (qim .i64)
def q9t{L:List (List Int)}(h:∀s∈L,s.length=5)(i:Nat)(s:List Int)(a:L[i]?=some s)(d:Nat)(g:d<5):(kY L)[i*5+d]?=some (.int .i64 (s[d]?.getD 0)):=by
 induction L generalizing i with
 | nil=>simp at a
 | cons b L c=>
  have f:=h b (by simp);unfold kY;rw[qku];cases i with
  | zero=>
   simp at a;subst a;rw[qiD (by simp;omega),Nat.zero_mul,qib,qjA,qhG (by omega)];rfl
  | succ i=>
   rw[qkb (by simp;omega),qlB,f,show(i+1)*5+d - 5=i*5+d by omega];exact c (λt e=>h t (by simp[e])) i (by simpa using a)
def q72(L:List (List Int))(s:List Int):kY (L++[s])=kY L++s.map (qim .i64):=by simp[kY]
def jp(w:qhy)(v:qhC)(L:List (List Int)):Prop :=
 ∃base a,v=.slice base L.length a /\
  (L≠[]->∃B o b c,base=some ⟨B,o,none⟩/\w.heap[B]?=some (.cells b 118 c)/\∀i s,L[i]?=some s->∀d,d<5->b[o+i*5+d]?=some (.int .i64 (s[d]?.getD 0)))
def jp.kept{w w':qhy}{v:qhC}{L:List (List Int)}(h:jp w v L)(i:∀(k:Nat) (d:Array qhC) (a:Nat × Nat),w.heap[k]?=some (Obj.cells d 118 a)->w'.heap[k]?=some (Obj.cells d 118 a)):jp w' v L:=by
 obtain⟨base,f,rfl,g⟩:=h;refine⟨base,f,rfl,λe=>?_⟩;have⟨B,o,d,a,p,l,j⟩:=g e;exact⟨B,o,d,a,p,i B _ _ l,j⟩
def jp.keptM{w c:qhy}{v:qhC}{L:List (List Int)}{M:Nat}(h:jp w v L)(d:w.gb c (some M))(hm:∀b a,w.heap[M]?≠some (Obj.cells b 118 a)):jp c v L:=h.kept λk b a e=>(d.block k (qz e) (λh=>hm b a (by cases h;exact e))).t e
def zU.not{w:qhy}{M:Nat}{K:List (List Int)}(h:zU w M K)(d:Array qhC)(t:qid)(c:Nat × Nat):w.heap[M]?≠some (Obj.cells d t c):=by
 obtain⟨f,a,b,-⟩:=h;rw[b];intro e;cases e
def jp.own{e:Nat}{w:qhy}{v:qhC}{L:List (List Int)}(h:w.ownsRow e 118 5 v L.length (kY L))(o:∀s∈L,s.length=5):jp w v L:=by
 obtain⟨x,p⟩:=h;rcases p with⟨rfl,q⟩ | ⟨g,b,a,rfl,u,k,t,hm,r,f⟩
 ·have:L=[]:=qjq q;subst this;exact⟨none,0,rfl,λh=>absurd rfl h⟩
 ·refine⟨_,b,rfl,λ_=>⟨g,0,a,_,rfl,k,λi s c d n=>?_⟩⟩;have j:=(qic.1 c).1;have:=q9t o i s c d n;rw[<- f,qjC (by omega)] at this;simpa using this
def jp.at{w:qhy}{base:Option qj5}{n d k:Nat}{L:List (List Int)}(h:jp w (.slice base n d) L){s:List Int}(b:L[k]?=some s):∃B o,base=some ⟨B,o,none⟩/\B<w.heap.size/\w.cell? ⟨B,o+k*5,none⟩=some (.int .i64 (s[0]?.getD 0))/\w.cell? ⟨B,o+k*5+1,none⟩=some (.int .i64 (s[1]?.getD 0))/\w.cell? ⟨B,o+k*5+2,none⟩=some (.int .i64 (s[2]?.getD 0))/\w.cell? ⟨B,o+k*5+3,none⟩=some (.int .i64 (s[3]?.getD 0))/\w.cell? ⟨B,o+k*5+4,none⟩=some (.int .i64 (s[4]?.getD 0)):=by
 obtain⟨f,g,e,i⟩:=h;cases e;have⟨B,o,q,p,l,a,j⟩:=i (by intro e;rw[e] at b;simp at b);have c:=j k s b;exact⟨B,o,l,qz a,q8 a (c 0 (by omega)),q8 a (c 1 (by omega)),q8 a (c 2 (by omega)),q8 a (c 3 (by omega)),q8 a (c 4 (by omega))⟩
def Tp.info118p:(Ya.info? 118).map (λi=>(i.zero,i.size,i.bytes))=some (some (.agg #[.int .i64 0,.int .i64 0,.int .i64 0,.int .i64 0,.int .i64 0]),5,40):=by kernel_rfl
def Tp.und121:Ya.underlying 121=some (.slice 118):=by rw[Tp.und];exact Tryz.underlying121
end
section
open Go Go.RowKit Go.Co
noncomputable def mX8:qkk:=sqB (sqB (sqB (sqB (sqB (sqB (sqB (inn (sqB (Tryz.f54.body.getD .skip)))))))))
noncomputable def q4z:qkk:=sqB (sqB mX8)
noncomputable def mLA:qkk:=inn (sqB (sqA q4z))
noncomputable def qbE:qkk:=sqB (sqB q4z)
noncomputable def mLB:qkk:=inn (sqB (sqA qbE))
noncomputable def mB3:qkk:=inn (sqA (sqB (sqB (inn mLB))))
noncomputable def mLC:qkk:=inn (sqB (sqB mB3))
def Kp(b:List Nat)(z a:Array qhC):Prop:=∀j∈b,a[j]?=z[j]?
def qc3(b:List Nat)(z a:Array qhC)(d:a.size=123)(e:Kp b z a):a=((qiz 123).map λj=>bif b.elem j then z[j]?.getD qhE else a[j]?.getD qhE).toArray:=by
 have c:=Z2 a;rw[d] at c;refine c.t (congrArg List.toArray (List.map_congr_left λj f=>?_));cases hc:b.elem j with
 | false=>rfl
 | true=>
  show a[j]?.getD qhE=z[j]?.getD qhE;rw[e j (List.elem_iff.1 hc)]
def xn(k:Nat)(a:List (List Int) × List (List Int))(s:List Int):List (List Int) × List (List Int):=(qiz k).foldl (λa i=>ZR a (swp s i)) a
def Z7(k:Nat)(a:List (List Int) × List (List Int))(s:List Int):xn (k+1) a s=ZR (xn k a s) (swp s k):=by simp[xn,qm5]
def q8o(a:List (List Int) × List (List Int))(m:List Int):(ZR a m).2.length<=a.2.length+1:=by
 unfold ZR;split<;>simp
def q5b(k:Nat)(a:List (List Int) × List (List Int))(s:List Int):(xn k a s).2.length<=a.2.length+k:=by
 induction k with
 | zero=>simp[xn]
 | succ k b=>rw[Z7];have:=q8o (xn k a s) (swp s k);omega
def q5E{b:List (List Int) × List (List Int)}{m:List Int}(h:∀s∈b.2,s.length=5)(hm:m.length=5):∀s∈(ZR b m).2,s.length=5:=by
 unfold ZR;split
 ·exact h
 ·intro s c;rcases qkn.1 c with a | a
  ·exact h s a
  ·rw[qkv.1 a];exact hm
def q9y{k:Nat}{a:List (List Int) × List (List Int)}{s:List Int}(h:∀s∈a.2,s.length=5)(c:s.length=5):∀t∈(xn k a s).2,t.length=5:=by
 induction k with
 | zero=>simpa[xn] using h
 | succ k b=>rw[Z7];exact q5E b (by rw[q7q];exact c)
def jK{P:qi4}{c:qkk}{Q:Exit->Act->qhy->Prop}{a:Act}{w:qhy}(F:qhy->Prop)(b:F w)(h:∀u,F u->c.wp P Q a u):c.wp P Q a w:=h w b
structure qhi(Sb i:Nat)(s:List Int)(a b:Int)(w:qhy):Prop where
 fst:w.cell? ⟨Sb,i,none⟩=some (.int .i64 a)
 snd:w.cell? ⟨Sb,i+1,none⟩=some (.int .i64 b)
 mid:∀W:qhy,W.heap=w.heap->(W.setCell ⟨Sb,i,none⟩ (.int .i64 b)).cell? ⟨Sb,i+1,none⟩=some (.int .i64 b)/\(W.setCell ⟨Sb,i,none⟩ (.int .i64 b)).frozen? ⟨Sb,i+1,none⟩=false
 fin:∀W:qhy,W.heap=w.heap->((W.setCell ⟨Sb,i,none⟩ (.int .i64 b)).setCell ⟨Sb,i+1,none⟩ (.int .i64 a)).heap[Sb]?=some (.cells ((swp s i).map (qim .i64)).toArray 118 (0,0))
def zG{w:qhy}{d i:Nat}{s:List Int}{a b:Int}(h:w.heap[d]?=some (.cells (s.map (qim .i64)).toArray 118 (0,0)))(g:s[i]?=some a)(f:s[i+1]?=some b):qhi d i s a b w where
 fst:=q8 h (by simp[g])
 snd:=q8 h (by simp[f])
 mid W e:=by
  have c:=qg (o:=i) (v:=.int .i64 b) (show W.heap[d]?=_ by rw[e];exact h);refine⟨q8 c ?_,qj c⟩;rw[qjj (by omega)];simp[f]
 fin W e:=by
  have c:=qg (o:=i+1) (v:=.int .i64 a) (qg (o:=i) (v:=.int .i64 b) (show W.heap[d]?=_ by rw[e];exact h));rw[c];unfold swp;rw[g,f];simp[List.map_set]
def qdl{s:List Int}{i:Nat}{a b:Int}(d:s[i]?=some a)(c:s[i+1]?=some b):swp (swp s i) i=s:=by
 apply qmx;intro j;simp only[swp,d,c,List.getElem?_set,qo4];have f:=(qic.1 d).1;have e:=(qic.1 c).1;by_cases h:i+1=j
 ·subst h;rw[c];simp[f,e]
 ·by_cases g:i=j
  ·subst g;rw[d];simp[f,e]
  ·simp[h,g]
def qay{s:List Int}{i:Nat}{a b:Int}(d:s[i]?=some a)(c:s[i+1]?=some b):(swp s i)[i]?=some b/\(swp s i)[i+1]?=some a:=by
 have f:=(qic.1 d).1;have e:=(qic.1 c).1;unfold swp;rw[d,c];constructor
 ·rw[qld (by omega)];simp[f]
 ·simp[e]
structure McI(w1 u:qhy)(M Sb:Nat)(kn:List (List Int) × List (List Int))(nv:qhC)(s:List Int):Prop where
 g:w1.grownBy u (some M)
 m:zU u M kn.1
 o:u.ownsRow w1.heap.size 118 5 nv kn.2.length (kY kn.2)
 n:∀b,nv.ownBlock=some b->b≠Sb
 s:u.heap[Sb]?=some (.cells (s.map (qim .i64)).toArray 118 (0,0))
def McI.kept{d u f:qhy}{M a:Nat}{q:List (List Int) × List (List Int)}{p:qhC}{s l:List Int}(h:McI d u M a q p s)(t:M<d.heap.size)(k:d.heap.size<=a)(i:u.gb f (some a))(r:f.heap[a]?=some (.cells (l.map (qim .i64)).toArray 118 (0,0))):McI d f M a q p l where
 g:=h.g.andThen i (λj e=>.inl (by cases e;exact k))
 m:=h.m.kept (i.block M (qia t h.g.size) (λe=>by cases e;omega))
 o:=h.o.kept i (.inr λe=>h.n _ e rfl)
 n:=h.n
 s:=r
def McI.swap{d u:qhy}{M c i:Nat}{g:List (List Int) × List (List Int)}{f:qhC}{s:List Int}{a b:Int}(h:McI d u M c g f s)(l:M<d.heap.size)(e:d.heap.size<=c)(k:s[i]?=some a)(j:s[i+1]?=some b) :McI d (((u.setCell ⟨c,i,none⟩ (.int .i64 b)).setCell ⟨c,i+1,none⟩ (.int .i64 a)).drew) M c g f (swp s i) :=
 h.kept l e (((qf _ _ _ _).t (qf _ _ _ _)).t (q9 _ _)) ((zG h.s k j).fin u rfl)
def McI.put{b u a:qhy}{M d:Nat}{K f:List (List Int)}{i:qhC}{s m:List Int}(h:McI b u M d (K,f) i s)(l:M<b.heap.size){o:Obj}(j:a=u.putObj M o)(hm:zU a M (K++[m])):McI b a M d (K++[m],f) i s:=by
 have k:=h.g.size;have c:u.gb a (some M):=by rw[j];exact qls u M o
 refine⟨h.g.t c,hm,h.o.kept c (.inr λe=>?_),h.n,(c.block d (qz h.s) (λe=>?_)).t h.s⟩
 ·have:=(h.o.lt M e).1;omega
 ·cases e;exact h.m.not _ _ _ h.s
def McI.push{f u k:qhy}{M i:Nat}{K a:List (List Int)}{q:Option qj5}{l p:Nat}{s m:List Int}(h:McI f u M i (K,a) (.slice q l p) s)(F:M<f.heap.size){x:Obj}{d cap:Nat}(r:(u.alloc x).gb k (qiH q l p).ownBlock)(y:k.ownsRow f.heap.size 118 5 (.slice (some d) (a.length+1) cap) (a.length+1) (kY a++m.map (qim .i64)))(v:(qiH q l p).ownBlock=some d\/d=u.heap.size+1) :McI f k M i (K,a++[m]) (.slice (some d) (a.length+1) cap) s:=by
 have D:=h.g.size;have B:=qz h.s;have c:=qhx u x none;refine⟨(h.g.andThen c (by simp)).andThen r (λj e=>.inl (h.o.lt j e).1),h.m.kept ((r.block M (by rw[qi6];omega) (λe=>?_)).t (c.block M (by omega) (by simp))),?_,λb e=>?_,(r.block i (by rw[qi6];omega) (λe=>h.n i e.symm rfl)).t (qp h.s)⟩
 ·have:=(h.o.lt M e.symm).1;omega
 ·rw[q72,qjm];exact y
 ·have z:d=b:=by simpa[qiF] using e
  subst z;rcases v with w | w
  ·exact h.n _ w
  ·omega
def q8m{kn:List (List Int) × List (List Int)}{m:List Int}(h:m∈kn.1):ZR kn m=kn:=if_pos h
def q8n{kn:List (List Int) × List (List Int)}{m:List Int}(h:m∉kn.1):ZR kn m=(kn.1++[m],kn.2++[m]):=if_neg h
def cCh:List Nat:=[0,1,2,3,4,5,6,7,8,9,10,12,13,14,15,16,17,18,19,23,24,25,26,27,28,29,30,31,32,33,34,35,36,37,38,39,40,41,42,43,44,45,46,47,48,49,50,51,52,53,54,55,56,57,58,59,60,61,62,63,64,65,66,67,68,69,70,115,116,117,118,119,120,121,122]
def qgE(z:Array qhC)(hz:z.size=123)(P w:qhy)(R:Act->qhy->Prop)(F M B:Nat)(T:Int)(s:List Int)(K D:List (List Int))(nv:qhC)(h9:z[9]?=some (.map (some M)))(g6:z[11]?=some nv)(g5:z[12]?=some (.int .i64 T))(e8:z[19]?=some (.pointer (some B)))(e7:z[70]?=some (.int .i64 F))(e6:z[71]?=some (.int .i64 0))(hn:F<=4)(hs:s.length=5)(hM:M<P.heap.size)(a9:P.heap.size<=B)(hS:w.heap[B]?=some (.cells (s.map (qim .i64)).toArray 118 (0,0)))(hg:P.gb w (some M))(n:zU w M K)(ho:w.ownsRow P.heap.size 118 5 nv D.length (kY D))(d9:∀b,nv.ownBlock=some b->b≠B)(q3:D.length+F<=100000)(r9:0<=T/\T<=100000)(h5:∀s∈D,s.length=5)(hR:∀(z':Array qhC) (c3:qhC) y,z'.size=123->z'[11]?=some c3->Kp cCh z z'->P.gb y (some M)->zU y M (xn F (K,D) s).1->y.ownsRow P.heap.size 118 5 c3 (xn F (K,D) s).2.length (kY (xn F (K,D) s).2)->R ⟨z',[]⟩ y) :mLC.wp Ya (qmy 4 (yB R)) ⟨z,[]⟩ w:=by
 have⟨i0,n6,n4,n3,n2⟩:=qk1 Tp.info118p;obtain⟨t,ht,rfl⟩:=ZJ z hz;have e9:=ht 9 _ h9;have g8:=ht 11 _ g6;have b8:=ht 12 _ g5;have b7:=ht 19 _ e8;have b6:=ht 70 _ e7;have g7:=ht 71 _ e6;clear ht h9 g6 g5 e8 e7 e6;rw[e9,g8,b8,b7,b6,g7];have HE:=qhw (qie e9 (qie b8 (qie b7 b6)));clear e9 g8 b8 b7 b6 g7;have⟨HR,HG,HS,HK,HO,p3,H5⟩:=q6C hR hg hS n ho d9 h5;clear hR hg hS n ho d9 hz h5;simp only[mLC,mB3,mLB,qbE,q4z,mX8,qnG,qi0,sqA,sqB,inn];go_wp2;go_loopw [11,71] (λnv iv wr=>∃i:Nat,iv=.int .i64 i/\i<=F/\McI P wr M B (xn i (K,D) s) nv s) (λ_ iv _=>(F - qj7 iv).toNat)
 case atStart=>exact⟨0,rfl,by omega,HG,HK.out,HO,p3,HS⟩
 case round=>
  obtain⟨i,rfl,hi,Q⟩:=hrel;obtain⟨oa,om,oc,rfl⟩:=zi Q.o;have HI:=qhw Q;have I:=q5b i (K,D) s;by_cases s6:i<F
  ·obtain⟨a,j⟩:∃a,s[i]?=some a:=⟨_,qhG (by omega)⟩;obtain⟨b,f⟩:∃b,s[i+1]?=some b:=⟨_,qhG (by omega)⟩;obtain⟨q,hq⟩:∃q,q=swp s i:=⟨_,rfl⟩;have d7:q[i]?=some b:=by rw[hq];exact(qay j f).1
   have d6:q[i+1]?=some a:=by rw[hq];exact(qay j f).2
   have d5:swp q i=s:=by rw[hq];exact qdl j f
   have a7:q.length=5:=by rw[hq,q7q];exact hs
   have q2:(i:Int)<(F:Int):=by omega
   have r8:IntKind.i64.wrap (i:Int)=(i:Int):=qiv _ (by omega);have r7:IntKind.i64.wrap ((i:Int)+1)=(i:Int)+1:=qiv _ (by omega);have q0:IntKind.i64.wrap (T+1)=T+1:=qiv _ (by omega);have s5:((i:Int)+1).toNat=i+1:=by omega
   have s8:(i:Int)<5:=by omega
   have s7:(i:Int)+1<5:=by omega
   have s3:(0:Int)<=(i:Int)+1:=by omega
   have hu:(0:Int)<=(i:Int):=by omega
   have ca:=(zG Q.s j f).fst;have A:=(zG Q.s j f).snd;have za:=qj Q.s (o:=i);have x:=qj Q.s (o:=i+1);have l:=qhw (zG Q.s j f).mid;have S:=qhw (Q.swap hM a9 j f);have AB:=qhw (qie j f);have HQ:=qhw (qie d7 d6);have N:=qhw (qie d5 hq);clear Q j f d7 d6 d5;go_wp2_with (fail);refine qr 12 (λy=>y.cell? ⟨B,i+1,none⟩=some (.int .i64 b)/\y.frozen? ⟨B,i+1,none⟩=false) (by kernel_rfl) (by kernel_rfl) ⟨A,x⟩ (λhHeld=>?_);simp only[qi3,qi7,qii,qiB,qib,qij,qik,qiq,qin,qi9];refine tk 0 (h:=tk 1 (h:=tk 2 (h:=tk 3 (h:=tk 4 (h:=tk 5 (h:=tk 6 (h:=tk 7 (h:=tk 8 (h:=?_)))))))));try go_frame
   refine rdc 9 λK n=>?_;go_simp;refine n.out _ _ (by first | exact hHeld | exact⟨A,x⟩ | exact l _ rfl) (λhHeld=>?_);clear n K;try go_frame
   refine tk 10 (h:=?_);try go_frame
   refine rdc 11 λK n=>?_;go_simp;refine n.out _ _ (by first | exact hHeld | exact⟨A,x⟩ | exact l _ rfl) (λhHeld=>?_);clear n K;try go_frame
   refine⟨by kernel_rfl,?_⟩;simp only[qig,qit];go_upto_region 26 with(fail);refine jK (λu=>McI P u M B (xn i (K,D) s) (.slice oa om oc) q) (by rw[N.2];exact S) (λu p=>?_);have O:=qhw p;have⟨Y,X,W,V,U,k⟩:=len5 a7;have c:=p.s;rw[k] at c;have b0:=q8 c (o:=0) (v:=.int .i64 Y) rfl;have b1:=q8 c (o:=1) (v:=.int .i64 X) rfl;have b2:=q8 c (o:=2) (v:=.int .i64 W) rfl;have b3:=q8 c (o:=3) (v:=.int .i64 V) rfl;have b4:=q8 c (o:=4) (v:=.int .i64 U) rfl;have⟨vl,r⟩:=p.m.look q a7;obtain⟨kn,a8⟩:∃kn,kn=xn i (K,D) s:=⟨_,rfl⟩;rw[<- a8] at r O HI I;have⟨h8,g9⟩:=qF a8 k;clear p c a8 hHeld;obtain⟨K1,C⟩:=kn;dsimp only at r I;by_cases e:q∈K1
   ·rw[decide_eq_true e,k] at r;have H:(qny 120 (.map (some M)) (.agg #[Y,X,W,V,U]) true).run Ya u=.ok (.tuple #[vl,.bool true]) u:=r;clear r k;have HV:=qhw (q8m (kn:=(K1,C)) e);clear e;go_upto_region 30 with(fail);clear b0 b1 b2 b3 b4 H;clear ca A za x l S AB;have d:=O.out;have⟨j,f⟩:=HQ.out;have ca:=(zG d.s j f).fst;have A:=(zG d.s j f).snd;have za:=qj d.s (o:=i);have x:=qj d.s (o:=i+1);have l:=qhw (zG d.s j f).mid;have S:=qhw (d.swap hM a9 j f);have AB:=qhw (qie j f);clear d j f;go_wp2_with (fail);refine qr 12 (λy=>y.cell? ⟨B,i+1,none⟩=some (.int .i64 a)/\y.frozen? ⟨B,i+1,none⟩=false) (by kernel_rfl) (by kernel_rfl) ⟨A,x⟩ (λhHeld=>?_);simp only[qi3,qi7,qii,qiB,qib,qij,qik,qiq,qin,qi9];refine tk 0 (h:=tk 1 (h:=tk 2 (h:=tk 3 (h:=tk 4 (h:=tk 5 (h:=tk 6 (h:=tk 7 (h:=tk 8 (h:=?_)))))))));try go_frame
    refine rdc 9 λK n=>?_;go_simp;refine n.out _ _ (by first | exact hHeld | exact⟨A,x⟩ | exact l _ rfl) (λhHeld=>?_);clear n K;try go_frame
    refine tk 10 (h:=?_);try go_frame
    refine rdc 11 λK n=>?_;go_simp;refine n.out _ _ (by first | exact hHeld | exact⟨A,x⟩ | exact l _ rfl) (λhHeld=>?_);clear n K;try go_frame
    refine⟨by kernel_rfl,?_⟩;simp only[qig,qit];go_wp2;go_roundw
    case rel=>exact⟨i+1,by simp,by omega,by rw[Z7,<- N.2,<- h8,HV];rw[N.1] at S;exact S⟩
    case measure=>simp[qj7];omega
   ·rw[decide_eq_false e,k] at r;have H:(qny 120 (.map (some M)) (.agg #[Y,X,W,V,U]) true).run Ya u=.ok (.tuple #[vl,.bool false]) u:=r;clear r;have⟨ob,s4,Z,e5⟩:=O.out.m.add q a7 e (T+1);rw[k] at Z;have c9:(qjH 120 (.map (some M)) (.agg #[Y,X,W,V,U]) (.int .i64 (T+1))).run Ya u=.ok () (u.putObj M ob):=Z;have HV:=qhw (q8n (kn:=(K1,C)) e);have p4:=qhw e5;clear Z k e e5;go_upto_region 29 with(fail);clear b0 b1 b2 b3 b4 H c9;refine jK (λu=>McI P u M B (K1++[q],C) (.slice oa om oc) q) (O.put hM rfl (p4 _ (qnb (qia hM O.g.size)))) (λu5 p=>?_);have k0:=qhw p;have k:=g9.out;have c:=p.s;rw[k] at c;have b0:=q8 c (o:=0) (v:=.int .i64 Y) rfl;have b1:=q8 c (o:=1) (v:=.int .i64 X) rfl;have b2:=q8 c (o:=2) (v:=.int .i64 W) rfl;have b3:=q8 c (o:=3) (v:=.int .i64 V) rfl;have b4:=q8 c (o:=4) (v:=.int .i64 U) rfl;have s1:=p.g.size;clear p c k;go_upto_region 30 with(at_builtin;(refine qpo _ (by rfl) _ _ _ (by rfl) P.heap.size 118 i0 _ 5 40 Tp.und121 n6 n4 n3 n2 rfl (by omega) (.slice oa om oc) C.length (kY C) (by rfl) (by exact k0.o.alloc _) ⟨u5.heap.size,0,none⟩ 1 1 [.int .i64 Y,.int .i64 X,.int .i64 W,.int .i64 V,.int .i64 U] (by rfl) (by rfl) (qjh (cs:=#[Y,X,W,V,U]) (t:=118) (fr:=(0,0)) (qhH u5 _)) (by simp[qjF]) (by omega) (by unfold qlc;omega) (by omega) (by simp;omega) (u5.heap.size+1) (by simp) ?_);intro gi t1 u6 G L e4 s9;have p6:=qhw L;have n9:=qhw G;have p7:=qhw e4;clear L G e4);clear b0 b1 b2 b3 b4;have p5:=qhw (McI.push (m:=q) k0 hM p6 (by rw[g9];exact n9) p7);clear ca A za x l S AB;have d:=p5.out;have⟨j,f⟩:=HQ.out;have ca:=(zG d.s j f).fst;have A:=(zG d.s j f).snd;have za:=qj d.s (o:=i);have x:=qj d.s (o:=i+1);have l:=qhw (zG d.s j f).mid;have S:=qhw (d.swap hM a9 j f);have AB:=qhw (qie j f);clear d j f;go_wp2_with (fail);refine qr 12 (λy=>y.cell? ⟨B,i+1,none⟩=some (.int .i64 a)/\y.frozen? ⟨B,i+1,none⟩=false) (by kernel_rfl) (by kernel_rfl) ⟨A,x⟩ (λhHeld=>?_);simp only[qi3,qi7,qii,qiB,qib,qij,qik,qiq,qin,qi9];refine tk 0 (h:=tk 1 (h:=tk 2 (h:=tk 3 (h:=tk 4 (h:=tk 5 (h:=tk 6 (h:=tk 7 (h:=tk 8 (h:=?_)))))))));try go_frame
    refine rdc 9 λK n=>?_;go_simp;refine n.out _ _ (by first | exact hHeld | exact⟨A,x⟩ | exact l _ rfl) (λhHeld=>?_);clear n K;try go_frame
    refine tk 10 (h:=?_);try go_frame
    refine rdc 11 λK n=>?_;go_simp;refine n.out _ _ (by first | exact hHeld | exact⟨A,x⟩ | exact l _ rfl) (λhHeld=>?_);clear n K;try go_frame
    refine⟨by kernel_rfl,?_⟩;simp only[qig,qit];go_wp2;go_roundw
    case rel=>exact⟨i+1,by simp,by omega,by rw[Z7,<- N.2,<- h8,HV];rw[N.1] at S;exact S⟩
    case measure=>simp[qj7];omega
  ·obtain rfl:i=F:=by omega
   clear Q;go_wp2;refine HR _ _ wr rfl rfl ?_ HI.g HI.m HI.o;rw[<- HE.1,<- HE.2.1,<- HE.2.2.1,<- HE.2.2.2]
   repeat(refine qp6.2 ⟨rfl,?_⟩)
   exact qpd _
def yR(a:Nat)(K:List (List Int))(L:List (List Int)):List (List Int) × List (List Int):=L.foldl (xn a) (K,[])
def q9x(a:Nat)(K L:List (List Int))(s:List Int):yR a K (L++[s])=xn a (yR a K L) s:=by simp[yR]
def qeh(n:Nat)(K L:List (List Int)):qcl n K L=yR (n - 1) K L:=rfl
def qck(a:Nat)(K:List (List Int))(L:List (List Int)):(yR a K L).2.length<=L.length*a:=by
 have c:∀(L:List (List Int)) (b:List (List Int) × List (List Int)),(L.foldl (xn a) b).2.length<=b.2.length+L.length*a:=by
  intro L;induction L with
  | nil=>intro b;simp
  | cons s L d=>
   intro b;have f:=d (xn a b s);have e:=q5b a b s;simp only[List.foldl_cons,qi3,qp5];omega
 have:=c L (K,[]);rw[qi7,qib] at this;exact this
def JR{c:Nat}{K L:List (List Int)}(h:∀s∈L,s.length=5):∀s∈(yR c K L).2,s.length=5:=by
 have b:∀(L:List (List Int)) (a:List (List Int) × List (List Int)),(∀s∈L,s.length=5)->(∀s∈a.2,s.length=5)->∀s∈(L.foldl (xn c) a).2,s.length=5:=by
  intro L;induction L with
  | nil=>intro a _ h;simpa using h
  | cons s L e=>intro a d g;exact e _ (λt f=>d t (by simp[f])) (q9y g (d s (by simp)))
 exact b L (K,[]) h (by simp)
def bCh:List Nat:=[0,1,2,3,4,5,6,7,8,9,10,12,13,14,15,16,17,18,23,24,25,26,27,28,29,30,31,32,33,34,35,36,37,38,39,40,41,42,43,44,45,46,47,48,49,50,51,52,53,54,55,56,57,58,59,60,61,62,116,117,118,119,120,121,122]
def qfo:∀j∈(63::bCh),j∈cCh:=by decide
def qgF(z:Array qhC)(hz:z.size=123)(d:qhy)(R:Act->qhy->Prop)(n c M:Nat)(A:Int)(L K:List (List Int))(pb nb:Option qj5)(pc Z:Nat)(P:z[1]?=some (.slice pb n pc))(h9:z[9]?=some (.map (some M)))(O:z[11]?=some (.slice none 0 0))(N:z[12]?=some (.int .i64 A))(I:z[61]?=some (.slice nb L.length Z))(H:z[62]?=some (.int .i64 L.length))(G:z[63]?=some (.int .i64 0))(hn:n<=5)(l8:c=n - 1)(hM:M<d.heap.size)(hL:jp d (.slice nb L.length Z) L)(h5:∀s∈L,s.length=5)(hl:L.length<=1000)(hK:zU d M K)(a7:0<=A/\A<=100000)(hR:∀(f:Array qhC) (i:qhC) w,f.size=123->f[11]?=some i->Kp bCh z f->d.gb w (some M)->zU w M (yR c K L).1->w.ownsRow d.heap.size 118 5 i (yR c K L).2.length (kY (yR c K L).2)->R ⟨f,[]⟩ w) :mLB.wp Ya (qmy 2 (yB R)) ⟨z,[]⟩ d:=by
 obtain⟨t,h,rfl⟩:=ZJ z hz;have e1:=h 1 _ P;have e9:=h 9 _ h9;have S:=h 11 _ O;have v:=h 12 _ N;have r:=h 61 _ I;have q:=h 62 _ H;have Q:=h 63 _ G;clear h P h9 O N I H G;rw[e1,e9,S,v,r,q,Q];have W:=qhw (qie e1 (qie e9 (qie v (qie r q))));clear e1 e9 S v r q Q hz;have⟨HR,HL,HK,H5⟩:=zI hR hL hK h5;clear hR hL hK h5;simp only[mLB,qbE,q4z,mX8,qnG,qi0,sqA,sqB,inn];go_wp2;go_loopw [11,63] (λnv iv wr=>∃k:Nat,iv=.int .i64 k/\k<=L.length/\d.gb wr (some M)/\zU wr M (yR c K (L.take k)).1/\wr.ownsRow d.heap.size 118 5 nv (yR c K (L.take k)).2.length (kY (yR c K (L.take k)).2)) (λ_ iv _=>(L.length - qj7 iv).toNat)
 case atStart=>exact⟨0,rfl,by omega,qi2 _ _,HK.out,qjE _ _ _ _⟩
 case round=>
  obtain⟨k,rfl,hk,X,p,hO⟩:=hrel;have⟨Y,U,HO⟩:=qY X p hO;by_cases a9:k<L.length
  ·obtain⟨s,y⟩:∃s,L[k]?=some s:=⟨_,qhG a9⟩;have a8:=H5.out s (qih y);have D:=HL.out.keptM X (λcs fr=>HK.out.not _ _ _);obtain⟨B,o,rfl,b7,c0,c1,c2,c3,c4⟩:=D.at y;have e8:(k:Int)<(L.length:Int):=by omega
   have l7:IntKind.i64.wrap ((k:Int)+1)=(k:Int)+1:=qiv _ (by omega);have l6:IntKind.i64.wrap ((n:Int) - 1)=(n:Int) - 1:=qiv _ (by omega);have C:=qck c K (L.take k);rw[qkC,qqc hk] at C;have HS:=qhw y;obtain⟨a0,a1,a2,a3,a4,rfl⟩:=len5 a8;clear X p hO D y;go_upto_region 22 with(fail);obtain⟨T,l⟩:∃T,T=wr.heap.size:=⟨_,rfl⟩;rw[<- l];refine jK (λu=>McI d u M T (yR c K (L.take k)) u11 [a0,a1,a2,a3,a4]) ⟨Y.andThen (qhx _ _ none) (by simp),U.kept ((qhx wr _ none).block M (by have:=Y.out.size;omega) (by simp)),HO.alloc _,λb e=>by have:=(HO.lt b e).2;omega,by rw[l];exact qhH _ _⟩ (λu hI=>?_);have V:=qhw hI;have F:d.heap.size<=T:=by have:=Y.out.size;omega
   clear hI l c0 c1 c2 c3 c4 b7;go_wp2;all_goals
    refine qop (yt (R:=λa u=>∃x:Nat->qhC,a=⟨#[t 0,.slice pb n pc,t 2,t 3,t 4,t 5,t 6,t 7,t 8,.map (some M),t 10,x 11,.int .i64 A,t 13,t 14,t 15,t 16,t 17,t 18,x 19,x 20,x 21,x 22,t 23,t 24,t 25,t 26,t 27,t 28,t 29,t 30,t 31,t 32,t 33,t 34,t 35,t 36,t 37,t 38,t 39,t 40,t 41,t 42,t 43,t 44,t 45,t 46,t 47,t 48,t 49,t 50,t 51,t 52,t 53,t 54,t 55,t 56,t 57,t 58,t 59,t 60,.slice (some ⟨B,o,none⟩) L.length Z,.int .i64 L.length,.int .i64 k,x 64,x 65,x 66,x 67,x 68,x 69,x 70,x 71,x 72,x 73,x 74,x 75,x 76,x 77,x 78,x 79,x 80,x 81,x 82,x 83,x 84,x 85,x 86,x 87,x 88,x 89,x 90,x 91,x 92,x 93,x 94,x 95,x 96,x 97,x 98,x 99,x 100,x 101,x 102,x 103,x 104,x 105,x 106,x 107,x 108,x 109,x 110,x 111,x 112,x 113,x 114,x 115,t 116,t 117,t 118,t 119,t 120,t 121,t 122],[]⟩/\d.gb u (some M)/\zU u M (yR c K (L.take (k+1))).1/\u.ownsRow d.heap.size 118 5 (x 11) (yR c K (L.take (k+1))).2.length (kY (yR c K (L.take (k+1))).2)) ?_) ?_;rotate_left
    ·refine xR (c':=mLC) (by simp only[mLC,mB3,mLB,qbE,q4z,mX8,qnG,qi0,sqA,sqB,inn]) ?_;refine qgE _ rfl d u _ c M T A [a0,a1,a2,a3,a4] (yR c K (L.take k)).1 (yR c K (L.take k)).2 u11 rfl rfl rfl rfl (congrArg some (congrArg (qim .i64) (by omega))) rfl (by omega) rfl hM F V.s V.g V.m V.o V.n (by have:k*c<=1000*4:=Nat.mul_le_mul (by omega) (by omega);omega) a7 (JR λs y=>H5 s (qmw y)) ?_;intro f i w b1 b2 b3 b4 b5 b6;rw[show(yR c K (L.take k)).1=(yR c K (L.take k)).1 from rfl] at b5;have hT:xn c ((yR c K (L.take k)).1,(yR c K (L.take k)).2) [a0,a1,a2,a3,a4]=yR c K (L.take (k+1)):=by rw[qja,HS];exact(q9x _ _ _ _).symm
     rw[hT] at b5 b6;refine⟨λj=>f[j]?.getD qhE,congrArg (λz=>(⟨z,[]⟩:Act)) ((qc3 (63::bCh) _ f b1 (λj hj=>b3 j (qfo j hj))).trans ?_),b4,b5,?_⟩
     ·rfl
     ·show w.ownsRow _ _ _ (f[11]?.getD qhE) _ _;rw[b2];exact b6
    ·rintro a u2 ⟨x,rfl,g1,g2,g3⟩;have⟨G1,G2,G3⟩:=qY g1 g2 g3;clear g1 g2 g3;go_wp2;go_roundw
     case rel=>exact⟨k+1,by simp,by omega,G1,G2,G3⟩
     case measure=>simp[qj7];omega
  ·obtain rfl:k=L.length:=by omega
   clear X p hO;go_wp2;have P:=U.out;have h2:=HO.out;rw[qjt] at P h2;refine HR _ _ wr rfl rfl ?_ Y P h2;rw[<- W.1,<- W.2.1,<- W.2.2.1,<- W.2.2.2.1,<- W.2.2.2.2]
   repeat(refine qp6.2 ⟨rfl,?_⟩)
   exact qpd _
def qgw(a:List Par)(b:Bool × List Int)(s:List Int):Bool × List Int:=if qw a (pre Par.mx a a.length) (zu s)=true then(true,if b.1=true/\q2f (zu s) b.2=false then b.2 else zu s) else b
def q7h(a:List Par)(L:List (List Int))(s:List Int):jG a (L++[s])=qgw a (jG a L) s:=by rw[jG,qrm];rfl
def aKl:List Nat:=[0,1,2,3,4,5,6,7,8,9,10,11,12,13,14,15,18,19,20,21,22,23,24,25,26,27,28,29,30,31,32,33,34,35,36,37,38,39,40,41,42,56,57,58,59,60,61,62,63,64,65,66,67,68,69,70,71,72,73,74,75,76,77,78,79,80,81,82,83,84,85,86,87,88,89,90,91,92,93,94,95,96,97,98,99,100,101,102,103,104,105,106,107,108,109,110,111,112,113,114,115,116,117,118,119,120,121,122]
def qgG(z:Array qhC)(hz:z.size=123)(H:qhy)(R:Act->qhy->Prop)(Yb r:Nat)(a:List Par)(p:Int)(pv:qhC)(L:List (List Int))(nb:Option qj5)(nc:Nat)(h7:z[7]?=some (.pointer (some Yb)))(d6:z[13]?=some (.pointer (some r)))(d5:z[14]?=some (.func (.func 103) #[.pointer (some r)] #[]))(c9:z[41]?=some (.slice nb L.length nc))(c8:z[42]?=some (.int .i64 L.length))(b9:z[43]?=some (.int .i64 0))(hY:H.heap[Yb]?=some (.cells #[pv,p] 91 (0,0)))(hP:qn 0 r H pv a)(b8:H.heap[r]?=some (.cells #[.func (.func 99) #[] #[],.slice none 0 0,.bool false] 108 (0,0)))(a6:YOk a p)(hL:jp H (.slice nb L.length nc) L)(N:L.all (okS a p)=true)(hl:L.length<=1000)(hR:∀(z':Array qhC) (C:qhC) D,z'.size=123->Kp aKl z z'->H.gb D (some r)->D.heap[r]?=some (.cells #[.func (.func 99) #[] #[],C,.bool (jG a L).1] 108 (0,0))->qd 0 D.heap.size D C (jG a L).2->R ⟨z',[]⟩ D) :mLA.wp Ya (qmy 0 (yB R)) ⟨z,[]⟩ H:=by
 obtain⟨t,P,rfl⟩:=ZJ z hz;have e7:=P 7 _ h7;have U:=P 13 _ d6;have T:=P 14 _ d5;have S:=P 41 _ c9;have Q:=P 42 _ c8;have d8:=P 43 _ b9;clear P h7 d6 d5 c9 c8 b9;obtain⟨yb,yc,rfl,p4,-⟩:=hP.cell;rw[e7,U,T,S,Q,d8];have HE:=qhw (qie e7 (qie U (qie T (qie S Q))));clear e7 U T S Q d8 hz;have⟨HR,HY,HP,G,e5,HL⟩:=KX hR hY hP b8 a6 hL;have HA:=qhw (qje.1 N);clear hR hY hP b8 a6 hL N;simp only[mLA,q4z,mX8,qnG,qi0,sqA,sqB,inn];go_wp2;go_loopw [43] (λiv wr=>∃(k:Nat) (C:qhC),iv=.int .i64 k/\k<=L.length/\H.gb wr (some r)/\wr.heap[r]?=some (.cells #[.func (.func 99) #[] #[],C,.bool (jG a (L.take k)).1] 108 (0,0))/\qd 0 wr.heap.size wr C (jG a (L.take k)).2) (λiv _=>(L.length - qj7 iv).toNat)
 case atStart=>exact⟨0,_,rfl,by omega,qi2 _ _,G,qd.nil _ _ _⟩
 case round=>
  obtain⟨k,C,rfl,hk,hG,hB,hI⟩:=hrel;have⟨HG,HB,HI⟩:=qY hG hB hI;by_cases g9:k<L.length
  ·obtain⟨s,hs⟩:∃s,L[k]?=some s:=⟨_,qhG g9⟩;have I:=HA.out s (qih hs);have⟨g8,Z⟩:=Qv I;have b7:=HL.out.keptM hG (λcs fr e=>by rw[G] at e;injection e with e;injection e with _ e _;exact absurd e (by decide));obtain⟨B,o,rfl,k5,c0,c1,c2,c3,c4⟩:=b7.at hs;have m5:(k:Int)<(L.length:Int):=by omega
   have p5:IntKind.i64.wrap ((k:Int)+1)=(k:Int)+1:=qiv _ (by omega);have⟨HS,V⟩:=qF hs Z;obtain⟨n,j,i,g,f,rfl⟩:=len5 g8;clear hG hB hI b7 hs I Z;go_upto_region 13 with(fail);obtain⟨X,hX⟩:∃X,X=wr.heap.size:=⟨_,rfl⟩;rw[<- hX];refine jK (λu=>(H.gb u (some r)/\u.heap[r]?=some (.cells #[.func (.func 99) #[] #[],C,.bool (jG a (L.take k)).1] 108 (0,0))/\qd 0 u.heap.size u C (jG a (L.take k)).2)/\u.heap[X]?=some (.cells #[n,j,i,g,f] 118 (0,0))) ⟨⟨HG.andThen (qhx _ _ none) (by simp),qp HB,(HI.alloc _).mono (qhz _) (by rw[qi6];omega)⟩,by rw[hX];exact qhH _ _⟩ (λu hF=>?_);obtain⟨⟨f1,f2,f3⟩,W⟩:=hF;have⟨F1,F2,F3⟩:=qY f1 f2 f3;have b0:=q8 W (o:=0) (v:=.int .i64 n) rfl;have b1:=q8 W (o:=1) (v:=.int .i64 j) rfl;have b2:=q8 W (o:=2) (v:=.int .i64 i) rfl;have b3:=q8 W (o:=3) (v:=.int .i64 g) rfl;have b4:=q8 W (o:=4) (v:=.int .i64 f) rfl;have M:=qc0 [n,j,i,g,f] rfl;have O:=qhw (show ∀w,qiw Ya 113 #[.agg #[n,j,i,g,f]] w λe D=>∃v,e=.returned v/\w.gb D none/\qd w.heap.size D.heap.size D v (zu [n,j,i,g,f]) from M);have b:=qhw (show jG a (L.take k++[[n,j,i,g,f]])=if qw a (pre Par.mx a a.length) (zu [n,j,i,g,f])=true then(true,if(jG a (L.take k)).1=true/\q2f (zu [n,j,i,g,f]) (jG a (L.take k)).2=false then(jG a (L.take k)).2 else zu [n,j,i,g,f]) else jG a (L.take k) from q7h a (L.take k) [n,j,i,g,f]);have d9:=qhw (show L.take k++[[n,j,i,g,f]]=L.take (k+1) by rw[qja,HS];rfl);generalize zu [n,j,i,g,f]=l at V O b;clear f1 f2 f3 W c0 c1 c2 c3 c4 k5 M hX;go_upto_region 14 with(go_at_call 113;refine(O _).mono ?_;rintro e w2 ⟨v,rfl,a9,a7⟩;have d:=qhw a9;have y:=qhw (a7.mono (qix _) (qhz _));clear a9 a7);clear b0 b1 b2 b3 b4;obtain⟨vb,vc,rfl,-,-⟩:=y.out.cell;have gY:=F1.out.andThen d (by simp);have y2:=blk gY (λe=>by cases e;have h:=HY.out;rw[G] at h;injection h with h;injection h with _ h _;exact absurd h (by decide)) HY;have y0:=q8 y2 (o:=0) rfl;have y1:=q8 y2 (o:=1) rfl;have e4:=qhw ((HP.kept gY (λR e=>by cases e;exact .inr (qhz _))).mono (qhz _) (qrp (qia (qz G) gY.size)));have GY:=qhw gY;clear gY y2;cases hst:qw a (pre Par.mx a a.length) l with
   | false=>
    have x:=qhw hst;clear hst;go_wp2_with (go_at_call 114;refine(q38 0 _ _ _ a p l w2 ⟨_,rfl,e4⟩ y (qhz _) e5 V).mono ?_;rintro e w3 ⟨rfl,q⟩;rw[x];have c:=qhw q;clear q);go_roundw
    case rel=>
     rw[d9,if_neg (by rw[x];simp)] at b;have F:=d.out.t c;refine⟨k+1,C,by simp,by omega,F1.andThen F (by simp),?_,?_⟩
     ·rw[b];exact bk F F2
     ·rw[b];exact(F3.kept F).mono (qhz _) F.size
    case measure=>simp[qj7];omega
   | true=>
    have x:=qhw hst;clear hst;go_wp2_with (first
     | (go_at_call 114;refine(q38 0 _ _ _ a p l w2 ⟨_,rfl,e4⟩ y (qhz _) e5 V).mono ?_;rintro e w3 ⟨rfl,q⟩;rw[x];have c:=qhw q;clear q)
     | (go_at_call 103;refine(q8r r (jG a (L.take k)).1 C _ (jG a (L.take k)).2 l w3 (bk (d.t c) F2) ((F3.kept (d.t c)).mono (qhz _) (d.t c).size) ((y.kept c).mono (qhz _) c.size)).mono ?_;rintro e w4 ⟨rfl,a8,Y⟩;have A:=qhw a8;have k8:=qhw Y;clear a8 Y))
    go_roundw
    case rel=>
     rw[d9,if_pos x.out] at b;have F:=d.out.t c;have b6:=bk F F2;refine⟨k+1,_,by simp,by omega,(F1.andThen F (by simp)).t A,by rw[b];exact k8,?_⟩;rw[b];dsimp only;split
     ·exact(((F3.kept F).mono (qhz _) F.size).keptT A b6 (by decide)).mono (qhz _) A.size
     ·exact(((y.kept c).mono (qhz _) c.size).keptT A b6 (by decide)).mono (qhz _) A.size
    case measure=>simp[qj7];omega
  ·obtain rfl:k=L.length:=by omega
   clear hG hB hI;go_wp2;have h1:=HB.out;have h2:=HI.out;rw[qjt] at h1 h2;refine HR _ _ wr rfl ?_ HG h1 h2;rw[<- HE.1,<- HE.2.2.1,<- HE.2.1,<- HE.2.2.2.1,<- HE.2.2.2.2]
   repeat(refine qp6.2 ⟨rfl,?_⟩)
   exact qpd _
def qcb{w a:qhy}(h:w.gb a none)(r:Option Nat):w.gb a r:=⟨h.os,h.tape,h.output,h.size,λk b _=>h.block k b (by simp)⟩
def MJ(d:List Par)(b:Int)(w0:qhy)(g:Option qj5)(n e h:Nat)(c:qhC)(o:Option (Int × List Int))(a:Act)(w:qhy):Prop :=
 ∃(z:Array qhC) (Yb M st f:Nat) (K now:List (List Int)) (nb:Option qj5) (nc:Nat),a=⟨z,[]⟩/\z.size=123/\z[1]?=some (.slice g n e)/\z[7]?=some (.pointer (some Yb))/\z[9]?=some (.map (some M))/\z[10]?=some (.slice nb now.length nc)/\z[11]?=some (.slice none 0 0)/\z[12]?=some (.int .i64 st) /\
  st+f=h/\q20 d b n f K now st=some o/\zU w M K/\w0.heap.size<=M/\jp w (.slice nb now.length nc) now/\w0.gb w none/\w.heap[Yb]?=some (.cells #[c,b] 91 (0,0))/\qn 0 w0.heap.size w c d
def qfc(o:Option (Int × List Int))(z:Array qhC)(w:qhy):Prop :=
 match o with
 | some (a,r)=>∃v,z[4]?=some (.int .i64 a)/\z[5]?=some v/\z[6]?=some (.int .i64 0)/\qd 0 w.heap.size w v r
 | none=>z[4]?=some (.int .i64 0)/\z[5]?=some (.slice none 0 0)/\z[6]?=some (.int .i64 11)
def q0x{w:qhy}{M:Nat}{c:Array qlp}{a:Nat}(b:qid)(h:w.heap[M]?=some (.map c a)):(qoh #[120] b #[.map (some M)]).run Ya w=.ok (.tuple #[]) (w.putObj M (.map #[] a)):=by
 simp[qoh,qjz,qoq Tp.und120,getObj,setObj,qjk,h,qnt,World.putObj]
def qdr(a:Act):Int:=qj7 (a.tmps.getD 12 qhE)
def qf1(H:List Par)(B:Int)(w0 w:qhy)(V:Option qj5)(n U f0:Nat)(pv:qhC)(o:Option (Int × List Int))(a:Act)(Q:Exit->Act->qhy->Prop)(hJ:MJ H B w0 V n U f0 pv o a w)(l5:YOk H B)(hn:n<=5)(hf:f0<=1000)(hQ:∀(b:Array qhC) L,b.size=123->qfc o b L->w0.gb L none->Q .ret ⟨b,[]⟩ L) :mX8.wp Ya (qqu 0 (λa' L=>MJ H B w0 V n U f0 pv o a' L/\(f0 - qdr a').toNat<(f0 - qdr a).toNat) Q) a w:=by
 obtain⟨z,Yb,M,P,f,K,c,nb,nc,rfl,hz,h1,h7,h9,e5,e4,d9,s5,hm,hM,h,hN,hG,hY,hP⟩:=hJ;obtain⟨t,N,rfl⟩:=ZJ z hz;have e1:=N 1 _ h1;have e7:=N 7 _ h7;have e9:=N 9 _ h9;have g6:=N 10 _ e5;have g5:=N 11 _ e4;have e8:=N 12 _ d9;clear N h1 h7 h9 e5 e4 d9 hz;obtain⟨yb,yc,rfl,s3,-⟩:=hP.cell;rw[e1,e7,e9,g6,g5,e8];clear e1 e7 e9 g6 g5 e8;cases f with
 | zero=>cases hm
 | succ f=>
  unfold q20 at hm;split at hm
  ·rename_i g
   obtain⟨g,hl⟩:=g;have⟨i,HQ,G,HM,HN,HG,HY,HP⟩:=qca g hQ hm hM hN hG hY hP;have l9:M<w.heap.size:=by obtain⟨es,cl,e,-⟩:=hM;exact qz e
   clear hQ hm hM hN hG hY hP g;simp only[mX8,qnG,qi0,sqA,sqB,inn];have s6:∀(a:qj5) (fn:Fn) (x y:Array qhC) (m:Mode) (w:qhy),(store a (.func fn x y) m).run Ya w=stored Ya w a (.func fn x y) m:=λa fn x y m w=>run_store _ w a _ m rfl;go_upto_region 10 with(fail);obtain⟨F,C⟩:∃F,F=w.heap.size:=⟨_,rfl⟩;rw[<- C];have O:=qhx w (.cells #[.func (.func 99) #[] #[],.slice none 0 0,.bool false] 108) none;have u9:=qhw O;refine jK (λu=>(w.gb u none/\u.heap[F]?=some (.cells #[.func (.func 99) #[] #[],.slice none 0 0,.bool false] 108 (0,0)))) ⟨O,by rw[C];exact qhH _ _⟩ (λu hF=>?_);obtain⟨g1,T⟩:=hF;have⟨G1,B1,n3⟩:=qY g1 T C;have t5:M<F:=by omega
   have b9:w0.heap.size<=F:=by have:=HG.out.size;omega
   clear g1 T O C;go_upto_region 17 with(fail);refine qop (yt (R:=λa u2=>∃(b:Array qhC) (bv:qhC),a=⟨b,[]⟩/\b.size=123/\b[1]?=some (.slice V n U)/\b[7]?=some (.pointer (some Yb))/\b[9]?=some (.map (some M))/\b[10]?=some (.slice nb c.length nc)/\b[11]?=some (.slice none 0 0)/\b[12]?=some (.int .i64 P)/\b[13]?=some (.pointer (some F)) /\
    u.gb u2 (some F)/\u2.heap[F]?=some (.cells #[.func (.func 99) #[] #[],bv,.bool (jG H c).1] 108 (0,0))/\qd 0 u2.heap.size u2 bv (jG H c).2) ?_) ?_
   rotate_left
   ·refine xR (c':=mLA) (by simp only[mLA,q4z,mX8,qnG,qi0,sqA,sqB,inn]) ?_;refine qgG _ rfl u _ Yb F H B (.slice yb H.length yc) c nb nc rfl rfl rfl rfl rfl rfl (bk G1 HY) ((HP.kept G1).mono (qhz _) b9) B1 l5 (HN.keptM (M:=M) (qcb G1 _) (λcs fr=>HM.not _ _ _)) i hl ?_;intro b bv L T D S b4 b5;exact⟨b,bv,rfl,T,D 1 (by decide),D 7 (by decide),D 9 (by decide),D 10 (by decide),D 11 (by decide),D 12 (by decide),D 13 (by decide),S,b4,b5⟩
   ·rintro a u2 ⟨b,bv,rfl,r,k1,Y,X,a6,l,k,Z,f1,f2,I⟩;obtain⟨t2,d,rfl⟩:=ZJ b r;have j1:=d 1 _ k1;have j7:=d 7 _ Y;have j9:=d 9 _ X;have b7:=d 10 _ a6;have q:=d 11 _ l;have p:=d 12 _ k;have b0:=d 13 _ Z;clear d k1 Y X a6 l k Z;rw[j1,j7,j9,b7,q,p,b0];clear j1 j7 j9 b7 q p b0 r;obtain⟨bb,bc,rfl,-,-⟩:=I.cell;have c9:w.gb u2 none:=Q0 G1 f1 (by rw[n3];exact qhz _);have c1:=q8 f2 (o:=1) rfl;have c2:=q8 f2 (o:=2) rfl;have⟨F3,A⟩:=qF I c9;have l8:M<u2.heap.size:=by have:=c9.size;omega
    have t4:=qz f2;clear f1 f2 I;cases hb:(jG H c).1 with
    | true=>
     rw[if_pos hb] at G;rw[hb] at c2;clear hb;go_wp2_with (fail);go_quiet (fail);go_wp2;simp only[qqu];have hm:=G.out;cases hm;exact HQ _ _ rfl ⟨_,rfl,rfl,rfl,(F3.kept (qi _ _ none)).mono (qhz _) (qhz _)⟩ ((HG.t A).t (qi _ _ none))
    | false=>
     rw[if_neg (by rw[hb];simp)] at G;rw[hb] at c2;clear hb;have d8:zU u2 M K:=HM.out.kept (A.block M l9 (by simp));have d7:jp u2 (.slice nb c.length nc) c:=HN.out.keptM (M:=M) (qcb A _) (λcs fr=>HM.not _ _ _);have⟨m4,l7⟩:=qF d8 d7;clear d8 d7;go_upto_region 33 with(fail);refine qop (yt (R:=λa u3=>∃(b:Array qhC) (W:qhC),a=⟨b,[]⟩/\b.size=123/\b[1]?=some (.slice V n U)/\b[7]?=some (.pointer (some Yb))/\b[9]?=some (.map (some M))/\b[11]?=some W/\b[12]?=some (.int .i64 P) /\
      u2.gb u3 (some M)/\zU u3 M (yR (n - 1) K c).1/\u3.ownsRow u2.heap.size 118 5 W (yR (n - 1) K c).2.length (kY (yR (n - 1) K c).2)) ?_) ?_
     rotate_left
     ·refine xR (c':=mLB) (by simp only[mLB,qbE,q4z,mX8,qnG,qi0,sqA,sqB,inn]) ?_;refine qgF _ rfl u2 _ n (n - 1) M P c K V nb U nc rfl rfl rfl rfl rfl rfl rfl hn rfl l8 l7 (λs hs=>(Qv (qje.1 i s hs)).1) hl m4 (by omega) ?_;intro b W L T D S b4 b5 b6;exact⟨b,W,rfl,T,S 1 (by decide),S 7 (by decide),S 9 (by decide),D,S 12 (by decide),b4,b5,b6⟩
     ·rintro a u3 ⟨b,W,rfl,r,k1,Y,X,l,k,f1,f2,I⟩;obtain⟨t3,j,rfl⟩:=ZJ b r;have j1:=j 1 _ k1;have j7:=j 7 _ Y;have j9:=j 9 _ X;have q:=j 11 _ l;have p:=j 12 _ k;clear j k1 Y X l k;rw[j1,j7,j9,q,p];clear j1 j7 j9 q p r c1 c2;obtain⟨s2,r7,r9,rfl⟩:=zi I;have⟨F1,F2⟩:=qF f1 f2;have hS:=jp.own I (JR λs hs=>(Qv (qje.1 i s hs)).1);obtain⟨s1,r8,e3,-⟩:=hS;cases e3;have HS:=qhw (jp.own I (JR λs hs=>(Qv (qje.1 i s hs)).1));have hm:=G.out;rw[qeh] at hm;have s4:IntKind.i64.wrap ((P:Int)+1)=(P:Int)+1:=qiv _ (by omega);have d5:w0.gb u3 none:=Q0 (HG.t A) F1 h;have d6:w.gb u3 (some M):=(qcb A _).t F1;have⟨g9,h8⟩:=qF d5 d6;clear f1 f2 I d5 d6;split at hm
      ·rename_i s8
       split at hm
       ·rename_i v
        cases hm;rw[v];obtain⟨es,cl,c8,-⟩:=F2.out;have s9:=q0x 0 c8;clear c8;go_wp2;simp only[qqu];exact HQ _ _ rfl ⟨rfl,rfl,rfl⟩ (Q0 g9 (qls _ _ _) h)
       ·rename_i v
        have n8:(0:Int)<((yR (n - 1) K c).2.length:Int):=by
         have:=qm9.2 v;omega
        have n2:=qhw hm;clear hm;go_wp2;go_step3;have m3:Yb≠M:=λe=>by rw[e] at HY;exact HM.not _ _ _ HY
        refine⟨rfl,⟨_,Yb,M,P+1,f,_,_,_,_,rfl,rfl,rfl,rfl,rfl,rfl,rfl,by simp,by omega,by simpa using n2.out,F2,h,HS,g9,blk h8 (by simpa using m3) HY,HP.kept h8 (λR e=>by cases e;exact .inr h)⟩,?_⟩;simp[qdr,qj7];omega
      ·cases hm
  ·cases hm
def qfd(w0:qhy)(o:Option (Int × List Int))(e:Ending)(a:qhy):Prop :=
 w0.gb a none/\match o with
 | some (b,r)=>∃v,e=.returned (.tuple #[b,v,.int .i64 0])/\qd 0 a.heap.size a v r
 | none=>e=.returned (.tuple #[.int .i64 0,.slice none 0 0,.int .i64 11])
def q9m{l:Nat}{J c:Act->qhy->Prop}{Q:Exit->Act->qhy->Prop}(h:∀a w,J a w->c a w):∀e a w,qqu l J Q e a w->qqu l c Q e a w:=by
 intro e a w b;cases e with
 | goto d=>exact⟨b.1,h _ _ b.2⟩
 | _=>exact b
def q4x{w b:qhy}{o:Option (Int × List Int)}{z:Array qhC}(n:z.size=123)(k:qfc o z b)(j:w.gb b none):bodyPost Ya qnG (λe b=>qfd w o e b) .ret ⟨z,[]⟩ b:=by
 obtain⟨t,a,rfl⟩:=ZJ z n;cases o with
 | none=>
  obtain⟨f,d,c⟩:=k;have i:=a 4 _ f;have h:=a 5 _ d;have g:=a 6 _ c;rw[i,h,g];exact qjw (v:=.tuple #[.int .i64 0,.slice none 0 0,.int .i64 11]) (by simp[qkh,qs7,go_sem]) rfl ⟨j,rfl⟩
 | some p=>
  obtain⟨l,r⟩:=p;obtain⟨v,f,d,c,q⟩:=k;have i:=a 4 _ f;have h:=a 5 _ d;have g:=a 6 _ c;rw[i,h,g];exact qjw (v:=.tuple #[l,v,.int .i64 0]) (by simp[qkh,qs7,go_sem]) rfl ⟨j,v,rfl,q⟩
def qe3(pv qv:qhC)(g:List Par)(b:Int)(l:List Int)(w:qhy)(hP:qn 0 w.heap.size w pv g)(hI:qd 0 w.heap.size w qv l)(T:YOk g b)(hp:POk g b l)(q:Nat)(hf:q<=1000)(o:Option (Int × List Int))(hm:q20 g b l.length q [zW l] [zW l] 0=some o) :qiw Ya 54 #[.agg #[pv,b],qv] w λe w'=>qfd w o e w':=by
 obtain⟨O,N,rfl,n2,-⟩:=hP.cell;obtain⟨pb,pc,rfl,-,-⟩:=hI.cell;have n6:=hp.len;have⟨HP,HI,H,e8,HM⟩:=Zc hP hI T hp hm;clear hP hI T hp hm;go_enter Tp.x54,Tryz.ntmps54;have c:l.length<=5:=by
  cases q with
  | zero=>cases HM
  | succ f=>
   have h:=HM.out;unfold q20 at h;split at h
   ·rename_i h1
    have:=(Qv (qje.1 h1.1 (zW l) (by simp))).1;unfold zW at this;rw[qjm] at this;omega
   ·cases h
 go_wp2;refine wp_scope_jumps 0 (MJ g b w pb l.length pc q (.slice O g.length N) o) (λa _=>(q - qdr a).toNat) rfl ?_ ?_
 ·go_upto_region 4 with(go_at_call 81;refine(kG 0 w.heap.size _ _ g b l _ (HP.kept (qhx _ _ none)) (HI.kept (qhx _ _ none)) (by simp) H e8).mono ?_;rintro e w2 ⟨rfl,Y⟩;have a6:=qhw ((qhx w (.cells #[.slice O g.length N,b] 24) none).t Y);clear Y);obtain⟨L,C⟩:∃L,L=w2.heap.size:=⟨_,rfl⟩;rw[<- C];refine jK (λu=>w.gb u none/\u.heap[L]?=some (.cells #[.slice O g.length N,b] 91 (0,0))) ⟨a6.t (qhx _ _ none),by rw[C];exact qhH _ _⟩ (λu Z=>?_);obtain⟨g3,y3⟩:=Z;have⟨G3,Y3⟩:=qF g3 y3;clear g3 y3 C a6;obtain⟨M,k⟩:∃M,M=u.heap.size:=⟨_,rfl⟩;have p:zU (u.alloc (.map #[] 0)) M []:=zU.nil (by rw[k];exact qhH u (.map #[] 0));have r:=qhw p;have j:u.gb (u.alloc (.map #[] 0)) none:=qhx _ _ none;have g9:=qhw j;have D:M<(u.alloc (.map #[] 0)).heap.size:=by rw[k,qi6];omega
  have h5:=Zw c;have⟨x0,x1,x2,x3,x4,Q⟩:=len5 h5;have G:=qhw Q;have d6:(qpu 120 none).run Ya u=.ok (.map (some M)) (u.alloc (.map #[] 0)):=by rw[k];rfl
  clear p h5 Q;go_upto_region 5 with(go_at_call 112;refine(Y1 0 _ _ l _ ((HI.kept (G3.t j)).mono (qhz _) (G3.t j).size) c).mono ?_;rintro e w5 ⟨rfl,A⟩;have I:=qhw A;have U:=r.out.kept (A.block M D (by simp));have⟨ob,n4,y,W⟩:=U.add (zW l) (Zw c) (by simp) 0;have e9:=qhw W;clear W A U;rw[G] at y ⊢;have S:(qjH 120 (.map (some u.heap.size)) (.agg #[x0,x1,x2,x3,x4]) (.int .i64 0)).run Ya w5=.ok () (w5.putObj M ob):=k ▸ y;clear y;unfold A5);rw[<- k];have X:M<w5.heap.size:=qia D I.size;have R:w.heap.size<=M:=by have:=G3.out.size;omega
  refine jK (λv=>w.gb v none/\v.heap[L]?=some (.cells #[.slice O g.length N,b] 91 (0,0))/\zU v M [zW l]) ⟨Q0 (G3.t (j.t I)) (qls _ _ _) R,blk (qls _ _ _) (λe=>by cases e;have:=qz Y3;omega) (bk (j.t I) Y3),e9 _ (qnb X)⟩ (λu6 Z=>?_);obtain⟨g6,y6,m6⟩:=Z;have⟨G6,Y6,M6⟩:=qY g6 y6 m6;have n3:=g6.size;clear g6 y6 m6 S d6 r j g9 D X k;go_upto_region 6 with(go_at_call 112;refine(Y1 0 _ _ l _ ((HI.kept G6).mono (qhz _) G6.size) c).mono ?_;rintro e P ⟨rfl,V⟩;have h8:=qhw V;clear V;rw[G];unfold A5);have z:=M6.out;have B:(P.alloc (.cells #[x0,x1,x2,x3,x4] 118)).heap[P.heap.size]?=some (.cells #[x0,x1,x2,x3,x4] 118 (0,0)):=qhH P _;have n:=h8.out.t (qhx P (.cells #[x0,x1,x2,x3,x4] 118) none);have e5:M<u6.heap.size:=by obtain⟨es,cl,e,-⟩:=z;exact qz e
  obtain⟨B7,F⟩:∃B7,B7=P.heap.size:=⟨_,rfl⟩;rw[<- F] at B;rw[<- F];refine jK (λv=>w.gb v none/\v.heap[L]?=some (.cells #[.slice O g.length N,b] 91 (0,0))/\zU v M [zW l]/\jp v (.slice (some B7) [zW l].length 1) [zW l]) ⟨G6.t n,bk n Y6,z.kept (n.block M e5 (by simp)),_,_,rfl,λ_=>⟨B7,0,_,_,rfl,B,λi s hi d hd=>by
   rcases i with _ | i
   ·simp at hi;subst hi;rw[G];obtain rfl | rfl | rfl | rfl | rfl:d=0\/d=1\/d=2\/d=3\/d=4:=by omega
    all_goals rfl
   ·simp at hi⟩⟩ (λu8 Z=>?_)
  obtain⟨g8,y8,m8,s8⟩:=Z;have⟨G8,Y8,M8,S8⟩:=zI g8 y8 m8 s8;clear g8 y8 m8 s8 z B n F;go_wp2;refine wp_label ?_
  rename_i K hK
  refine hK _ _ ?_;refine xR (c':=mX8) (by simp only[mX8,qnG,qi0,sqB,inn]) ?_;refine qop (q9m λa u h=>h.1) (qf1 g b w u8 pb l.length pc q _ o _ _ ⟨_,L,M,0,q,[zW l],[zW l],_,_,rfl,rfl,rfl,rfl,rfl,rfl,rfl,rfl,by omega,HM,M8,R,S8,G8,Y8,HP.kept G8⟩ H c hf ?_);exact λz' w' x hR hg=>q4x x hR hg
 ·rintro a u hJ;refine wp_seq ?_;refine wp_skip ?_;refine xR (c':=mX8) (by simp only[mX8,qnG,qi0,sqB,inn]) ?_;refine qf1 g b w u pb l.length pc q _ o a _ hJ H c hf ?_;exact λz' w' x hR hg=>q4x x hR hg
end
section
open Go.RowKit Go.Co
def vC(f g:Nat)(w:qhy)(v:qhC)(n:Nat)(c:Nat->Nat->Int):Prop :=
 ∃base a,v=.slice base n a/\(n:Int)<=1000000/\(0<n->∃B o b e h,base=some ⟨B,o,none⟩/\f<=B/\B<g/\w.heap[B]?=some (.cells b e h)/\∀i,i<n->∀d,d<5->b[o+i*5+d]?=some (.int .i64 (c i d)))
def ovr(c g:Nat->Int)(l:List Int)(k:Nat):Nat->Int:=λd=>if(d:Int)∈l.take k then c d else g d
def q4q(c g:Nat->Int)(l:List Int)(k n:Nat)(h:l[k]?=some (n:Int))(d:Nat):ovr c g l (k+1) d=if d=n then c d else ovr c g l k d:=by
 unfold ovr;rw[qja,h];by_cases e:d=n
 ·subst e;simp
 ·have:¬ ((d:Int)=n):=by omega
  simp[e,this]
def qfA(lo hi:Nat)(t:Nat->qhC)(w0 w:qhy)(R:Act->qhy->Prop)(A V:Nat)(av vv:qhC)(N i:Nat)(c:Nat->Nat->Int)(f:List Int)(o l:Nat)(g h:Nat->Int)(h2:t 2=.pointer (some A))(hA:w0.cell? A=some av)(hC:vC lo hi w0 av N c)(h5:t 5=.pointer (some V))(I:w0.cell? V=some vv)(hI:qd lo hi w0 vv f)(h7:t 7=.int .i64 i)(d9:i<N)(h8:t 8=.pointer (some o))(h9:t 9=.pointer (some l))(hg:w0.gb w none)(b:w.heap[o]?=some (qJ g))(a:w.heap[l]?=some (qJ h))(d8:o≠l)(p4:w0.heap.size<=o)(p3:w0.heap.size<=l)(n9:hi<=w0.heap.size)(hx:∀x∈f,0<=x/\x<5)(hR:∀(c9 c8 c3 b9 b8 b7 b6 b0 a9 a8 a7 a6 Z Y X W U T S Q P O M L:qhC) w',w0.gb w' none->w'.heap[o]?=some (qJ (ovr (c i) g f f.length))->w'.heap[l]?=some (qJ (ovr (c i) h f f.length)) ->R ⟨#[t 0,t 1,.pointer (some A),t 3,t 4,.pointer (some V),t 6,.int .i64 i,.pointer (some o),.pointer (some l),t 10,c9,t 12,t 13,t 14,t 15,t 16,t 17,t 18,t 19,t 20,t 21,t 22,t 23,t 24,c8,c3,b9,b8,b7,b6,b0,a9,a8,a7,a6,Z,Y,X,W,U,T,S,Q,P,O,M,L,t 48,t 49,t 50,t 51,t 52,t 53,t 54,t 55,t 56,t 57,t 58,t 59],[]⟩ w') :wR4.wp Ya (yB R) ⟨#[t 0,t 1,t 2,t 3,t 4,t 5,t 6,t 7,t 8,t 9,t 10,t 11,t 12,t 13,t 14,t 15,t 16,t 17,t 18,t 19,t 20,t 21,t 22,t 23,t 24,t 25,t 26,t 27,t 28,t 29,t 30,t 31,t 32,t 33,t 34,t 35,t 36,t 37,t 38,t 39,t 40,t 41,t 42,t 43,t 44,t 45,t 46,t 47,t 48,t 49,t 50,t 51,t 52,t 53,t 54,t 55,t 56,t 57,t 58,t 59],[]⟩ w:=by
 obtain⟨ab,ac,rfl,hN,F⟩:=hC;obtain⟨vb,vc,rfl,hq,D⟩:=hI.cell;obtain⟨AB,ao,q4,q1,q3,rfl,l5,l4,y,v⟩:=F (by omega);have⟨HR,HI,HX,HA,HV⟩:=Zc hR D hx hA I;have HC:=qhw (qie y v);have⟨g6,g5,HG⟩:=qY b a hg;have p7:A<w0.heap.size:=qqA hA;have p5:V<w0.heap.size:=qqA I;clear hR hI D F hx b a y v;rw[h2,h5,h7,h8,h9];clear h2 h5 h7 h8 h9;simp only[wR4,jP,qmk,qi0,sqA,sqB,inn];have v0:=hg.cl I;clear hA I hg;go_wp2;clear v0;go_loopw [27] (λiv wr=>∃k:Nat,iv=.int .i64 k/\k<=f.length/\w0.gb wr none/\wr.heap[o]?=some (qJ (ovr (c i) g f k))/\wr.heap[l]?=some (qJ (ovr (c i) h f k))) (λiv _=>(f.length - qj7 iv).toNat)
 case atStart=>exact⟨0,rfl,by omega,HG,by rw[g6];first | (congr 1;done) | (congr 1;exact yK λd _=>by simp[ovr]),by rw[g5];first | (congr 1;done) | (congr 1;exact yK λd _=>by simp[ovr])⟩
 case round=>
  obtain⟨k,rfl,hk,s,b,a⟩:=hrel;have⟨H,B,z⟩:=qY s b a;have a0:=s.cl HA;have v0:=s.cl HV;have n7:=(qhB.1 b).1;have n6:=(qhB.1 a).1;have n4:=s.size;by_cases r:k<f.length
  ·obtain⟨VB,vo,rfl,k9,k8,k7,u⟩:=HI.out (by intro e;rw[e] at r;simp at r);have x0:=s.cl (u k r);obtain⟨x,q⟩:∃x,f[k]?=some x:=⟨_,qhG r⟩;have⟨n3,n2⟩:=HX.out x (qih q);rw[q] at x0;simp only[qi0] at x0;obtain⟨n,rfl⟩:∃n:Nat,x=n:=⟨x.toNat,by omega⟩;have p:n<5:=by omega
   have C:w0.cell? ⟨AB,ao+i*5+n,none⟩=some (.int .i64 (c i n)):=q8 HC.1 (HC.2 i d9 n p);have c0:=s.cl C;have d1:=qm b p;have d2:=qm a p;have f1:=jr b;have f2:=jr a;have G:=qhw q;clear u q s b a C;go_upto_region 7 with(fail);have n8:(i:Int)<(N:Int):=by omega
   have k0:(n:Int)<5:=by omega
   have R1:((wr.setCell ⟨o,n,none⟩ (.int .i64 (c i n))).setCell ⟨l,n,none⟩ (.int .i64 (c i n))).heap[o]?=some (qJ (ovr (c i) g f (k+1))):=by
    refine(blk (qf _ l _ _) (by simp;exact d8) (Qr B p)).trans ?_
    congr 1
    exact yK λd _=>by rw[q4q _ _ _ _ n G];split<;>simp_all
   have R2:((wr.setCell ⟨o,n,none⟩ (.int .i64 (c i n))).setCell ⟨l,n,none⟩ (.int .i64 (c i n))).heap[l]?=some (qJ (ovr (c i) h f (k+1))):=by
    refine(Qr (blk (qf _ o _ _) (by simp;omega) z) p).trans ?_
    congr 1
    exact yK λd _=>by rw[q4q _ _ _ _ n G];split<;>simp_all
   have RG:w0.gb ((wr.setCell ⟨o,n,none⟩ (.int .i64 (c i n))).setCell ⟨l,n,none⟩ (.int .i64 (c i n))).drew none :=
    ((H.andThen (row':=some o) (qf _ _ _ _) (by rintro j e;cases e;exact .inl (by omega))).andThen (row':=some l) (qf _ _ _ _) (by rintro j e;cases e;exact .inl (by omega))).t (q9 _ _)
   have⟨e9,e8,e7⟩:=qY R1 R2 RG;clear R1 R2 RG;go_region_law (fail);all_goals
    clear a0 x0 c0 d1 d2 f1 f2;go_wp2;go_roundw
    case rel=>exact⟨k+1,by simp,by omega,e7,e9,e8⟩
    case measure=>simp[qj7];omega
  ·obtain rfl:k=f.length:=by omega
   clear s b a a0 v0;go_wp2;exact HR _ _ _ _ _ _ _ _ _ _ _ _ _ _ _ _ _ _ _ _ _ _ _ _ wr H B z
def qfz(r q:Nat)(t:Nat->qhC)(w0 w:qhy)(R:Act->qhy->Prop)(Y V:Nat)(yb:Option qj5)(yc:Nat)(vv:qhC)(c:List Par)(f:Int)(l:List Int)(B1 B2:Nat)(g h:Nat->Int)(h4:t 4=.pointer (some Y))(z:w0.cell? Y=some (.slice yb c.length yc))(y:w0.cell? ⟨Y,1,none⟩=some (.int .i64 f))(hP:qn r q w0 (.slice yb c.length yc) c)(h6:t 6=.pointer (some V))(hV:w0.cell? V=some vv)(hI:qd r q w0 vv l)(h8:t 8=.pointer (some B1))(h9:t 9=.pointer (some B2))(p:w0.gb w none)(b:w.heap[B1]?=some (qJ g))(A:w.heap[B2]?=some (qJ h))(l4:q<=w0.heap.size)(o:c.length<=5)(hx:∀x∈l,0<=x/\x<c.length)(hl:l.length<=1000)(u:∀i,0<=g i/\g i<=1000)(s:∀i,0<=h i/\h i<=1000)(hR:∀(U T S Q P O N M L I:qhC) w',w.gb w' none->R ⟨#[t 0,t 1,t 2,t 3,.pointer (some Y),t 5,.pointer (some V),t 7,.pointer (some B1),.pointer (some B2),t 10,t 11,t 12,t 13,t 14,t 15,t 16,t 17,t 18,t 19,t 20,t 21,t 22,t 23,t 24,t 25,t 26,t 27,t 28,t 29,t 30,t 31,t 32,t 33,t 34,t 35,t 36,t 37,t 38,t 39,t 40,t 41,t 42,t 43,t 44,t 45,t 46,t 47,U,T,S,Q,P,O,N,M,L,I,.bool (qw c g l && !qw c h l),t 59],[]⟩ w') :wR9.wp Ya (yB R) ⟨#[t 0,t 1,t 2,t 3,t 4,t 5,t 6,t 7,t 8,t 9,t 10,t 11,t 12,t 13,t 14,t 15,t 16,t 17,t 18,t 19,t 20,t 21,t 22,t 23,t 24,t 25,t 26,t 27,t 28,t 29,t 30,t 31,t 32,t 33,t 34,t 35,t 36,t 37,t 38,t 39,t 40,t 41,t 42,t 43,t 44,t 45,t 46,t 47,t 48,t 49,t 50,t 51,t 52,t 53,t 54,t 55,t 56,t 57,t 58,t 59],[]⟩ w:=by
 obtain⟨vb,vc,rfl,hq,-⟩:=hI.cell;have F:=qhw hR;have HI:=qhw (hI.kept p);have HP:=qhw (hP.kept p);have⟨HX,C,c8,d⟩:=zI hx u s A;have H:=p.cl z;have G:=p.cl y;have W:=p.cl hV;have k9:=p.size;have a0:=qm b (show 0<5 by omega);have a1:=qm b (show 1<5 by omega);have a2:=qm b (show 2<5 by omega);have a3:=qm b (show 3<5 by omega);have a4:=qm b (show 4<5 by omega);rw[h4,h6,h8,h9];have SC:=qhw (qie H (qie G W));clear hR hI hP hx u s A z y hV p h4 h6 h8 h9 b;simp only[wR9,jP,qmk,qi0,sqA,sqB,inn];obtain⟨Z,n⟩:∃Z,qw c g l=Z:=⟨_,rfl⟩;obtain⟨X,k⟩:∃X,qw c h l=X:=⟨_,rfl⟩;rw[n,k] at F;have⟨B,b6⟩:=qF n k;clear n k;cases Z
 ·go_wp2_with fail;refine(kQ r q _ _ c f l g _ ⟨_,rfl,HP⟩ HI (by omega) o HX hl C).mono ?_;rintro e w5 ⟨rfl,a⟩;rw[B];have j:=qhw a;clear a H G W a0 a1 a2 a3 a4;go_wp2;exact F _ _ _ _ _ _ _ _ _ _ _ j
 ·go_wp2_with fail;refine(kQ r q _ _ c f l g _ ⟨_,rfl,HP⟩ HI (by omega) o HX hl C).mono ?_;rintro e w5 ⟨rfl,a⟩;rw[B];have b0:=qm (bk a d) (show 0<5 by omega);have b1:=qm (bk a d) (show 1<5 by omega);have b2:=qm (bk a d) (show 2<5 by omega);have b3:=qm (bk a d) (show 3<5 by omega);have b4:=qm (bk a d) (show 4<5 by omega);have z0:=a.cl SC.1;have z1:=a.cl SC.2.1;have z2:=a.cl SC.2.2;have hz:=a.size;have b7:=qhw (HP.kept a);have b9:=qhw (HI.kept a);have j:=qhw a;clear a H G W a0 a1 a2 a3 a4;go_wp2_with fail;refine(kQ r q _ _ c f l h _ ⟨_,rfl,b7⟩ b9 (by omega) o HX hl c8).mono ?_;rintro e w6 ⟨rfl,v⟩;rw[b6];have D:=qhw v;clear v b0 b1 b2 b3 b4 z0 z1 z2;cases X
  ·go_wp2;exact F _ _ _ _ _ _ _ _ _ _ _ (j.t D)
  ·go_wp2;exact F _ _ _ _ _ _ _ _ _ _ _ (j.t D)
end
section
open Go Go.RowKit Go.Conc Go.ConcN Go.ConcN.Gen Go.Conc.Lib Go.ConcR.Gen Go.Co Go.Sim
def qO:qkk->Array qjx | .region _ ops _=>ops | _=>#[]
noncomputable def wLB:qkk:=inn (inn (sqB (Tryz.f139.body.getD .skip)))
noncomputable def qe0:Array qjx:=qO (sqA jP)
noncomputable def qbv:Array qjx:=qO (sqA (sqA (sqB jP)))
noncomputable def ZD:Array qjx:=qO (sqA (sqB (Tryz.f141.body.getD .skip)))
noncomputable def ZC:Array qjx:=qO (sqA (sqB (Tryz.f142.body.getD .skip)))
noncomputable def YK:Array qjx:=qO (Tryz.f143.body.getD .skip)
noncomputable def jw:List qm1:=[.inLoop wLB,.inBlock 0]
def pt(b:Nat):qhC:=.pointer (some b)
noncomputable def f1(a:Array qhC)(D:List qk6):qi5:=(qju 139).at ⟨a,D⟩ (.inRegion qe0 [0,1,2]::.code (sqB jP)::.inBlock 1::jw)
def KJ(x:Array qhC)(h:x.size=60):∃y0 y1 y2 y3 y4 y5 y6 y7 y8 y9 b7 b6 b0 a9 a8 a7 a6 Z Y X W V U T R Q P O N M L I H G F D C B A z y w v u s r q p o n l k j i g f d c b a,x=#[y0,y1,y2,y3,y4,y5,y6,y7,y8,y9,b7,b6,b0,a9,a8,a7,a6,Z,Y,X,W,V,U,T,R,Q,P,O,N,M,L,I,H,G,F,D,C,B,A,z,y,w,v,u,s,r,q,p,o,n,l,k,j,i,g,f,d,c,b,a]:=by
 have e:=Z2 x;rw[h] at e;exact⟨_,_,_,_,_,_,_,_,_,_,_,_,_,_,_,_,_,_,_,_,_,_,_,_,_,_,_,_,_,_,_,_,_,_,_,_,_,_,_,_,_,_,_,_,_,_,_,_,_,_,_,_,_,_,_,_,_,_,_,_,e.t rfl⟩
def q5c{Fz S:Bs}{A o a:Nat}(h:Fz A)(g:A<a):EvC Fz S a ⟨.cell ⟨A,o,none⟩,false,Mode.plain == Mode.atomic⟩:=by
 refine⟨⟨by simp,by simp,by simp⟩,λm hm=>by simp at hm,λx d b f=>?_⟩;have c:x=⟨.cell ⟨A,o,none⟩,false,.plain⟩:=by
  have e:(Mode.plain == Mode.atomic)=false:=by decide
  rw[e] at d;simp[qjy,qkj] at d;exact d.symm
 subst c;simp only[Go.Co.blk,qj3] at f;subst f;exact⟨g,rfl,.inr ⟨h,rfl⟩⟩
noncomputable def c20:qkk:=sqB (sqA (sqB jP))
noncomputable def wX:qkk:=sqB (sqB jP)
noncomputable def f2(a:Array qhC)(D:List qk6):qi5:=(qju 139).at ⟨a,D⟩ (.inRegion qbv [5,6]::.code c20::.code wX::.inBlock 1::jw)
section
variable{Fz:Bs}{K:qhy->qhy->Prop}{Stop:Bs->qhD->qhy->Prop}{S:Bs}(hK:∀a b c,K a b->K b c->K a c)
include hK
theorem qdC{d:Array qhC}{D:List qk6}{b:List qi5}{c:Nat}{w:qhy}(e:d[1]?.getD qhE=pt c)(a:∀w₁,RC Fz K S w w₁->Stop S (G ((qir 141).at ⟨#[pt c,.int .i64 1,qhE,qhE,.int .i64 0,pt c,pt c,pt c,.int .i64 1,qhE],[]⟩ [.inRegion ZD [4,5],.code .ret]) (f1 d D::b)) w₁) :ql qi8 Fz K Stop S (G ((qju 139).at ⟨d,D⟩ (.code wLB::jw)) b) w:=by
 simp only[f1,qe0,ZD,wLB,jP,jw,qmk,qoC,qi0,sqA,sqB,inn,qO] at a ⊢;refine ql.block hK ?_;refine ql.seq hK ?_;refine ql.region hK ?_;simp only[qiu,qi3,qi7,qii,qib,qiz,qj9];refine ql.enter hK rfl rfl (by k_ne) rfl Tryz.func141 (by kernel_rfl) rfl ?_
 walk_nrmf qoC
 rw[e];simp only[pt] at a ⊢;refine ql.seq hK ?_;refine ql.region hK ?_;simp only[qiu,qi3,qi7,qii,qib,qiz,qj9];refine ql.value hK (.int .i64 0) rfl rfl (by k_ne) (λ_=>by go_simp) (λ_=>by simp[go_sem]) ?_;walk_nrm;refine ql.region_end hK ?_;refine ql.seq hK ?_;refine ql.region hK ?_;simp only[qiu,qi3,qi7,qii,qib,qiz,qj9];refine ql.value hK (.pointer (some c)) rfl rfl (by k_ne) (λ_=>by go_simp) (λ_=>by simp[go_sem]) ?_;walk_nrm;refine ql.value hK (.pointer (some c)) rfl rfl (by k_ne) (λ_=>by go_simp) (λ_=>by simp[go_sem]) ?_;walk_nrm;refine ql.value hK (.pointer (some c)) rfl rfl (by k_ne) (λ_=>by go_simp) (λ_=>by simp[go_sem]) ?_;walk_nrm;refine ql.value hK (.int .i64 1) rfl rfl (by k_ne) (λ_=>by go_simp) (λ_=>by simp[go_sem]) ?_;walk_nrm;exact ql.stop a
theorem qdB[JunkSet]{d:Array qhC}(g:d.size=60){D:List qk6}{b:List qi5}{f c A i N:Nat}{av:qhC}{l:Option qj5}{k:Nat}{w:qhy}(p:d[2]?.getD qhE=pt A)(o:d[3]?.getD qhE=pt c)(hA:∀w₁,RC Fz K S w w₁->w₁.cell? A=some (.slice l N k))(j:Fz A)(h:A<w.heap.size)(hi:i<N)(hN:N<=1000000)(a:∀w₁,RC Fz K S w w₁->Stop S (G ((qir 142).at ⟨#[pt c,qhE,.bool false,pt c,pt c,pt c,qhE,qhE],[]⟩ [.inRegion ZC [3,4,5],.code .ret]) (f2 ((((((((d.setIfInBounds 12 (.int .i64 (i+1))).setIfInBounds 13 (.int .i64 i)).setIfInBounds 7 (.int .i64 i)).setIfInBounds 14 (.int .i64 i)).setIfInBounds 15 (.slice l N k)).setIfInBounds 16 (.int .i64 N)).setIfInBounds 17 (.bool false)).setIfInBounds 18 (.bool false)) D::b)) w₁) :ql qi8 Fz K Stop S (G ((qir 141).at ⟨#[pt f,.int .i64 1,qhE,qhE,.int .i64 0,pt f,pt f,pt f,.int .i64 1,.int .i64 (i+1)],[]⟩ [.inRegion ZD [5],.code .ret]) (f1 d D::b)) w:=by
 obtain⟨y0,y1,y2,y3,y4,y5,y6,y7,y8,y9,e9,e8,e7,e6,e5,e4,d9,d8,d7,d6,d5,c9,c8,c3,b9,b8,b7,b6,b0,a9,a8,a7,a6,Z,Y,X,W,V,U,T,R,Q,P,O,M,L,I,H,F,C,B,z,y,x,v,u,t,s,r,q,rfl⟩:=KJ d g;simp only[f1,f2,c20,wX,qe0,qbv,ZD,ZC,wLB,jP,jw,qmk,qoC,qof,qi0,sqA,sqB,inn,qO] at a ⊢;simp at p o;subst p o;simp only[List.setIfInBounds_toArray,List.set_cons_succ,List.set_cons_zero] at a;simp only[pt] at a ⊢;have g5:IntKind.i64.wrap (i:Int)=i:=qiv _ (by omega);refine ql.value hK (.int .i64 (i+1)) rfl rfl (by k_ne) (λ_=>by go_simp) (λ_=>by simp[go_sem]) ?_;walk_nrm;refine ql.region_end hK ?_;refine ql.retS hK ?_;refine ql.leave1 hK rfl rfl Tryz.func141 rfl ?_;walk_nrm;refine ql.value hK (.int .i64 i) rfl rfl (by k_ne) (λ_=>by go_simp) (λ_=>by simp[go_sem]) ?_;walk_nrm;refine ql.value hK (.int .i64 i) rfl rfl (by k_ne) (λ_=>by go_simp) (λ_=>by simp[go_sem]) ?_;walk_nrm;refine ql.region_end hK ?_;refine ql.seq hK ?_;refine ql.seq hK ?_;refine ql.region hK ?_;simp only[qiu,qi3,qi7,qii,qib,qiz,qj9];refine ql.value hK (.int .i64 i) rfl rfl (by k_ne) (λ_=>by go_simp) (λ_=>by simp[go_sem]) ?_;walk_nrm;refine ql.load hK (.slice l N k) rfl rfl (by k_ne) (λw₁ h₁=>?_) ?_
 ·have hc:=hA w₁ h₁;refine⟨by go_simp,λe n=>?_⟩;simp[go_sem,hc] at n;rw[n];exact q5c j (qia h h₁.size)
 walk_nrm;refine ql.value hK (.int .i64 N) rfl rfl (by k_ne) (λ_=>by go_simp) (λ_=>by simp[go_sem]) ?_;walk_nrm;refine ql.value hK (.bool false) rfl rfl (by k_ne) (λ_=>by go_simp) (λ_=>by simp[go_sem]) ?_;walk_nrm;refine ql.value hK (.bool false) rfl rfl (by k_ne) (λ_=>by go_simp) (λ_=>by simp[go_sem]) ?_;walk_nrm;refine ql.enter hK rfl rfl (by k_ne) rfl qor (by kernel_rfl) rfl ?_
 walk_nrmf qof
 refine ql.seq hK ?_;refine ql.region hK ?_;simp only[qiu,qi3,qi7,qii,qib,qiz,qj9];refine ql.value hK (.bool false) rfl rfl (by k_ne) (λ_=>by go_simp) (λ_=>by simp[go_sem]) ?_;walk_nrm;refine ql.region_end hK ?_;refine ql.seq hK ?_;refine ql.region hK ?_;simp only[qiu,qi3,qi7,qii,qib,qiz,qj9];refine ql.value hK (.pointer (some c)) rfl rfl (by k_ne) (λ_=>by go_simp) (λ_=>by simp[go_sem]) ?_;walk_nrm;refine ql.value hK (.pointer (some c)) rfl rfl (by k_ne) (λ_=>by go_simp) (λ_=>by simp[go_sem]) ?_;walk_nrm;refine ql.value hK (.pointer (some c)) rfl rfl (by k_ne) (λ_=>by go_simp) (λ_=>by simp[go_sem]) ?_;walk_nrm;exact ql.stop a
end
end
end Go.Proofs.YtidgnkmjgioapaaGreat
