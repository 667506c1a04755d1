/-
  Part 4 of the proof. gladstonelaw04.PileChecks answers true for every yard, parcel, pile, number and list of numbers, and leaves its arguments as they were. No conditions.
-/
import Derived.Test.YtidgnkmjgioapaaGreatG2
import Derived.Test.YtidgnkmjgioapaaGreatL1
import Derived.RangeFuncBox
import Derived.DeepKeys
import Derived.RangeFuncNested
import Derived.RangeFuncBound
import Derived.RangeFuncCalls
import Derived.RangeFuncLeaves
import Derived.Shelf.Abstract
import Derived.WalkKit
import Derived.OwnWalkIn
import Derived.TacticsInMore
import Derived.LoopNIn
import Derived.LoopIn
import Derived.Laws.CopyOwn
import Derived.Laws.CopyRow
import Derived.Laws.IdiomCopy
import Derived.Recover
import Derived.Defers
import Derived.RangeFuncOwn
import Derived.WalkMore
set_option maxRecDepth 100000
set_option maxHeartbeats 8000000
set_option linter.all false
open And renaming intro->qhb
open Array renaming getElem?_append_left->qml,getElem?_eq_some_iff->qgy,getElem?_setIfInBounds_ne->qif,getElem?_setIfInBounds_self_of_lt->qk7,replicate_succ->qhq,replicate_zero->qhr
open Bool renaming and_eq_true->qhh,false_eq_true->qhy,true_and->qou
open Classical renaming byContradiction->qhF,em->qqg
open Go renaming Addr->qi5,Calls->qhw,Code->qje,FuncId->qib,MapEntry->qkk,Oper->qiu,Operand->qhE,Program->qh2,TypeId->qh8,Value->qgB,World->qgx,bodyPost_ret->qj8,callsIn_of_wp->qot,callsIn_of_wp_marks->qo4,callsIn_wide->qjt,execOp->qk3,grownBy_putObj'->qkn,grownCap->qkG,heap_alloc_new->qgF,info_parts->qjj,leaves_cons->qn7,maxLen->qkq,results->qjb,run_takeDeferred->qnu,run_underlying->qnj,undef->qgD,wpList_append_lies->qoh,wpList_append_own->qks,yielded->qj4,zeroValue->qlz
open Go.Builtin renaming append_->qku,clear_->qna,copy_->qoo,zeroCells->qjf
open Go.Calls renaming quiet_of_same->qiH
open Go.Code renaming wp_mono->qni
open Go.Exit renaming inBlock->qlt,jump->qpr
open Go.Instr renaming checkKey->qkC,findAsking->qlb,findKey->qlu,lookup->qmp,makeMap->qop,mapUpdate->qiB
open Go.IntWalk renaming i64_in->qhp
open Go.Lib renaming hid->qgv
open Go.Proofs.Tryz renaming f137->qpq,f139->qlf,f54->qmy,ntmps157->qq0,ntmps84->qp4,ntmps98->qqm,results102->qr2,results54->qr7,underlying29->qlq
open Go.Region renaming binds->qi3,wanted->qhv
open Go.Result renaming andThen->qmk,andThen_ok->qiv
open Go.RowKit renaming intOf->qi9
open Go.RowKit.Below renaming heap_setCell->qie,refl->qn2
open Go.Sem renaming run->qih,run_bind->qiy,run_pure->qms
open Go.Value renaming cells->qnE,int->qhj,oneCell'->qjk,ownBlock->qhB,slice->qi1
open Go.World renaming cell?->qhs,grownBy_alloc->qgw,news_of_block->qiw,ownsRow_nil->qjh,putObj_heap_same->qm2,setCell->qjc,size_alloc->qh6
open Go.World.grownBy renaming refl->qh1
open List renaming all_eq_true->qid,append_assoc->qjp,append_nil->qmD,append_toArray->qkh,cons_append->qhe,drop_eq_getElem_cons->qjB,drop_eq_nil_of_le->qke,drop_succ_cons->qhu,drop_zero->qia,eq_nil_of_length_eq_zero->qim,ext_getElem->qqC,ext_getElem?->qls,filter_append->qn3,find?_eq_none->qlk,flatMap_append->qpw,flatMap_cons->qjr,foldl_append->qqk,forall_mem_cons->qnH,forall_mem_nil->qo5,getElem?_append_left->qhz,getElem?_append_right->qj3,getElem?_eq_getElem->qgG,getElem?_eq_some_iff->qh9,getElem?_map->qj7,getElem?_of_mem->qnF,getElem?_set_ne->qka,getElem?_set_self->ql8,getElem?_take->qm0,getElem?_take_of_lt->qiz,length_append->qio,length_cons->qh3,length_filter_le->qk5,length_map->qkw,length_nil->qhc,length_pos_iff->ql4,length_set->qmE,length_singleton->qno,length_take->qjz,map_append->qji,map_cons->qla,map_nil->qnh,map_toArray->qmu,mem_append->qjv,mem_cons->qix,mem_filter->qo2,mem_map->ql7,mem_of_getElem?->qhg,mem_of_mem_take->qlr,mem_range->qjq,mem_singleton->qjC,nil_append->qho,not_mem_nil->qiF,push_toArray->qhC,range->qht,range'->qnD,range_succ->qkH,replicate->qr6,size_toArray->qhn,takeWhile_cons_of_pos->qmm,take_add_one->qig,take_length->qis,take_sublist->qql
open List.cons renaming injEq->qk0
open Nat renaming add_assoc->qmw,add_mul->qnG,le_of_eq->qlF,le_of_lt->qqn,le_refl->qgA,le_trans->qh0,lt_of_lt_of_le->qh7,min_eq_left->qp9,reduceAdd->qhk,reduceSub->qii,zero_add->qhf,zero_le->qhx
open Option renaming getD_some->qgH
open Option.some renaming inj->qjF
open Prod renaming fst->ql5
namespace Go.Proofs.YtidgnkmjgioapaaGreat
section
open Go.RowKit Go.Co
def sqA:qje->qje | .seq a _=>a | c=>c
def sqB:qje->qje | .seq _ b=>b | c=>c
def inn:qje->qje | .block _ c | .loop c | .scope c=>c | c=>c
noncomputable def jH:qje:=inn (inn (inn (sqB (Tryz.f139.body.getD .skip))))
noncomputable def wR3:qje:=sqA (sqB (sqB jH))
noncomputable def wR4:qje:=sqA (sqB (sqB (sqB jH)))
noncomputable def wR9:qje:=sqA (sqB (sqB (sqB (sqB jH))))
structure I3(t:Nat->qgB)(w0:qgx)(Y:Nat)(yv:qgB)(gm gx:Nat->Int)(l:Array Bool)(a:Act)(w:qgx):Prop where
 hg:w0.grownBy w none
 c6:l[6]?.getD false=true->l[0]?.getD false=true/\l[1]?.getD false=true/\l[3]?.getD false=true/\l[4]?.getD false=true/\l[5]?.getD false=true
 c7:l[7]?.getD false=true->l[6]?.getD false=true
 ac:∃T8 T9 x y z u,a=⟨#[t 0,t 1,t 2,t 3,.pointer (some Y),t 5,t 6,t 7,T8,T9,t 10,t 11,t 12,t 13,t 14,t 15,t 16,t 17,t 18,t 19,t 20,x,y,z,u,t 25,t 26,t 27,t 28,t 29,t 30,t 31,t 32,t 33,t 34,t 35,t 36,t 37,t 38,t 39,t 40,t 41,t 42,t 43,t 44,t 45,t 46,t 47,t 48,t 49,t 50,t 51,t 52,t 53,t 54,t 55,t 56,t 57,t 58,t 59],[]⟩/\(l[0]?.getD false=true->x=yv)/\(l[1]?.getD false=true->y=wts gm)/\(l[2]?.getD false=true->z=yv)/\(l[3]?.getD false=true->u=wts gx) /\
  (l[4]?.getD false=true->∃B1,T8=.pointer (some ⟨B1,0,none⟩)/\w0.heap.size<=B1/\w.heap[B1]?=some (qG (if l[6]?.getD false then gm else λ_=>0))/\(l[5]?.getD false=true->T9≠T8)) /\
  (l[5]?.getD false=true->∃B2,T9=.pointer (some ⟨B2,0,none⟩)/\w0.heap.size<=B2/\w.heap[B2]?=some (qG (if l[7]?.getD false then gx else λ_=>0)))
theorem qeD(lo hi:Nat)(t:Nat->qgB)(w:qgx)(R:Act->qgx->Prop)(ps:List Par)(lim:Int)(Y:Nat)(yb:Option qi5)(yc:Nat)(h4:t 4=.pointer (some Y))(hP:qn lo hi w (.slice yb ps.length yc) ps)(hhi:hi<=w.heap.size)(h5:ps.length<=5)(c9:w.cell? Y=some (.slice yb ps.length yc))(c8:w.cell? ⟨Y,1,none⟩=some (.int .i64 lim))(e4:Y<w.heap.size)(hR:∀B1 B2 w' x y z u,w.grownBy w' none->w'.heap[B1]?=some (qG (pre Par.mn ps ps.length))->w'.heap[B2]?=some (qG (pre Par.mx ps ps.length))->B1≠B2->w.heap.size<=B1->w.heap.size<=B2 ->R ⟨#[t 0,t 1,t 2,t 3,.pointer (some Y),t 5,t 6,t 7,.pointer (some ⟨B1,0,none⟩),.pointer (some ⟨B2,0,none⟩),t 10,t 11,t 12,t 13,t 14,t 15,t 16,t 17,t 18,t 19,t 20,x,y,z,u,t 25,t 26,t 27,t 28,t 29,t 30,t 31,t 32,t 33,t 34,t 35,t 36,t 37,t 38,t 39,t 40,t 41,t 42,t 43,t 44,t 45,t 46,t 47,t 48,t 49,t 50,t 51,t 52,t 53,t 54,t 55,t 56,t 57,t 58,t 59],[]⟩ w') :wR3.wp Ya (yh R) ⟨#[t 0,t 1,t 2,t 3,t 4,t 5,t 6,t 7,t 8,t 9,t 10,t 11,t 12,t 13,t 14,t 15,t 16,t 17,t 18,t 19,t 20,t 21,t 22,t 23,t 24,t 25,t 26,t 27,t 28,t 29,t 30,t 31,t 32,t 33,t 34,t 35,t 36,t 37,t 38,t 39,t 40,t 41,t 42,t 43,t 44,t 45,t 46,t 47,t 48,t 49,t 50,t 51,t 52,t 53,t 54,t 55,t 56,t 57,t 58,t 59],[]⟩ w:=by
 have ⟨HR,HP⟩:=qH hR hP;have SC:=qgv (qhb c9 c8);clear hR hP c9 c8;rw[h4];clear h4;simp only[wR3,jH,qlf,qgH,sqA,sqB,inn];obtain⟨gm,c3⟩:∃gm,gm=pre Par.mn ps ps.length:=⟨_,rfl⟩;obtain⟨gx,b9⟩:∃gx,gx=pre Par.mx ps ps.length:=⟨_,rfl⟩;rw[<- c3,<- b9] at HR;have ⟨HGM,HGX⟩:=qH c3 b9;clear c3 b9;refine KH (by kernel_rfl) (I3 t w Y (.agg #[.slice yb ps.length yc,lim]) gm gx) ?_ ?_ ?_
 ·exact⟨qc _ _,by simp,by simp,t 8,t 9,t 21,t 22,t 23,t 24,rfl,by simp,by simp,by simp,by simp,by simp,by simp⟩
 ·intro l a w1 i hl hI hi;have b8:=(zq hi).1;have b0:l.size=8:=hl;have gs:∀i j,i<8->(l.setIfInBounds i true)[j]?.getD false=if i=j then true else l[j]?.getD false:=λi j h=>QA l i j (by omega);have a7:=ZK hi;obtain⟨hg,c6,c7,T8,T9,x,y,z,u,rfl,k0,k1,k2,k3,k4,k5⟩:=hI;have HG:=qgv hg;have s0:=hg.cl SC.out.1;have s1:=hg.cl SC.out.2;have d7:=qgv (HP.out.kept hg);have hsz:=hg.size;clear hg;have b8:i=0\/i=1\/i=2\/i=3\/i=4\/i=5\/i=6\/i=7:=by
   have:i<8:=b8;omega
  rcases b8 with rfl | rfl | rfl | rfl | rfl | rfl | rfl | rfl
  ·refine zy rfl ?_;have KK:=qgv (qhb c6 (qhb c7 (qhb k1 (qhb k2 (qhb k3 (qhb k4 k5))))));have ⟨H6,HGS⟩:=qH a7 gs;clear k0 k1 k2 k3 k4 k5 c6 c7 hi a7 gs hl b0;go_wp2;obtain⟨c6,c7,k1,k2,k3,k4,k5⟩:=KK.out;have gs:=HGS.out;have n6:l[6]?.getD false=false:=by
    cases h:l[6]?.getD false with
    | false=>rfl
    | true=>have:=(c6 h).1;rw[H6.out] at this;cases this
   have n7:l[7]?.getD false=false:=by
    cases h:l[7]?.getD false with
    | false=>rfl
    | true=>rw[c7 h] at n6;cases n6
   exact⟨HG.out,by simp[gs,n6],by simp[gs,n7],T8,T9,_,y,z,u,rfl,λ_=>rfl,by simpa[gs] using k1,by simpa[gs] using k2,by simpa[gs] using k3,by simpa[gs] using k4,by simpa[gs] using k5⟩
  ·have a6:=zo hi rfl;simp[qi3] at a6;have d0:l[0]?.getD false=true:=by(repeat(first | exact a6 | exact a6.1 | replace a6:=a6.2))
   obtain rfl:=k0 d0;clear a6;refine zy rfl ?_;have D0:=qgv d0;clear d0;have KK:=qgv (qhb c6 (qhb c7 (qhb k1 (qhb k2 (qhb k3 (qhb k4 k5))))));have ⟨H6,HGS⟩:=qH a7 gs;clear k0 k1 k2 k3 k4 k5 c6 c7 hi a7 gs hl b0;go_wp2_with (go_at_call 93;refine(Qy lo hi _ ps lim _ ⟨_,rfl,d7.out⟩ (by omega) h5).mono ?_;rintro e w5 ⟨rfl,b6⟩;have HG5:=qgv b6;clear b6);have gs:=HGS.out;have n6:l[6]?.getD false=false:=by
    cases h:l[6]?.getD false with
    | false=>rfl
    | true=>have:=KK.out.1 h;simp[H6.out] at this
   have n7:l[7]?.getD false=false:=by
    cases h:l[7]?.getD false with
    | false=>rfl
    | true=>rw[KK.out.2.1 h] at n6;cases n6
   obtain⟨c6,c7,k1,k2,k3,k4,k5⟩:=KK.out;exact⟨HG.out.trans HG5.out,by simp[gs,n6],by simp[gs,n7],T8,T9,_,_,z,u,rfl,λ_=>rfl,λ_=>by rw[HGM.out],by simpa[gs] using k2,by simpa[gs] using k3,by intro h;obtain⟨B1,e,hb,hh,hn⟩:=k4 (by simpa[gs] using h);exact⟨B1,e,hb,by simpa[gs] using bk HG5.out hh,by simpa[gs] using hn⟩,by intro h;obtain⟨B2,e,hb,hh⟩:=k5 (by simpa[gs] using h);exact⟨B2,e,hb,by simpa[gs] using bk HG5.out hh⟩⟩
  ·refine zy rfl ?_;have KK:=qgv (qhb c6 (qhb c7 (qhb k0 (qhb k1 (qhb k2 (qhb k3 (qhb k4 k5)))))));have ⟨H6,HGS⟩:=qH a7 gs;clear k0 k1 k2 k3 k4 k5 c6 c7 hi a7 gs hl b0;go_wp2;have gs:=HGS.out;obtain⟨c6,c7,k0,k1,k2,k3,k4,k5⟩:=KK.out;exact⟨HG.out,by simpa[gs] using c6,by simpa[gs] using c7,T8,T9,x,y,_,u,rfl,by simpa[gs] using k0,by simpa[gs] using k1,λ_=>rfl,by simpa[gs] using k3,by simpa[gs] using k4,by simpa[gs] using k5⟩
  ·have a6:=zo hi rfl;simp[qi3] at a6;have d2:l[2]?.getD false=true:=by(repeat(first | exact a6 | exact a6.1 | replace a6:=a6.2))
   obtain rfl:=k2 d2;clear a6;refine zy rfl ?_;have D2:=qgv d2;clear d2;have KK:=qgv (qhb c6 (qhb c7 (qhb k0 (qhb k1 (qhb k3 (qhb k4 k5))))));have ⟨H6,HGS⟩:=qH a7 gs;clear k0 k1 k2 k3 k4 k5 c6 c7 hi a7 gs hl b0;go_wp2_with (go_at_call 92;refine(Qa lo hi _ ps lim _ ⟨_,rfl,d7.out⟩ (by omega) h5).mono ?_;rintro e w5 ⟨rfl,b6⟩;have HG5:=qgv b6;clear b6);have gs:=HGS.out;have n6:l[6]?.getD false=false:=by
    cases h:l[6]?.getD false with
    | false=>rfl
    | true=>have:=KK.out.1 h;simp[H6.out] at this
   have n7:l[7]?.getD false=false:=by
    cases h:l[7]?.getD false with
    | false=>rfl
    | true=>rw[KK.out.2.1 h] at n6;cases n6
   obtain⟨c6,c7,k0,k1,k3,k4,k5⟩:=KK.out;exact⟨HG.out.trans HG5.out,by simp[gs,n6],by simp[gs,n7],T8,T9,x,y,_,_,rfl,by simpa[gs] using k0,by simpa[gs] using k1,λ_=>rfl,λ_=>by rw[HGX.out],by intro h;obtain⟨B1,e,hb,hh,hn⟩:=k4 (by simpa[gs] using h);exact⟨B1,e,hb,by simpa[gs] using bk HG5.out hh,by simpa[gs] using hn⟩,by intro h;obtain⟨B2,e,hb,hh⟩:=k5 (by simpa[gs] using h);exact⟨B2,e,hb,by simpa[gs] using bk HG5.out hh⟩⟩
  ·refine zy rfl ?_;have KK:=qgv (qhb c6 (qhb c7 (qhb k0 (qhb k1 (qhb k2 (qhb k3 (qhb k4 k5)))))));have ⟨H6,HGS⟩:=qH a7 gs;clear k0 k1 k2 k3 k4 k5 c6 c7 hi a7 gs hl b0;go_wp2;have gs:=HGS.out;have n6:l[6]?.getD false=false:=by
    cases h:l[6]?.getD false with
    | false=>rfl
    | true=>have:=KK.out.1 h;simp[H6.out] at this
   have n7:l[7]?.getD false=false:=by
    cases h:l[7]?.getD false with
    | false=>rfl
    | true=>rw[KK.out.2.1 h] at n6;cases n6
   obtain⟨c6,c7,k0,k1,k2,k3,k4,k5⟩:=KK.out;refine⟨HG.out.trans (qgw _ _ none),by simp[gs,n6],by simp[gs,n7],_,T9,x,y,z,u,rfl,by simpa[gs] using k0,by simpa[gs] using k1,by simpa[gs] using k2,by simpa[gs] using k3,λ_=>⟨w1.heap.size,rfl,hsz,?_,λh=>?_⟩,by intro h;obtain⟨B2,e,hb,hh⟩:=k5 (by simpa[gs] using h);exact⟨B2,e,hb,by simpa[gs] using qp hh⟩⟩
   ·rw[show(l.setIfInBounds 4 true)[6]?.getD false=false by simp[gs,n6]];exact qgF w1 (qG λ_=>0)
   ·obtain⟨B2,e2,_,hh⟩:=k5 (by simpa[gs] using h);have:=(qgy.1 hh).1;rw[e2];intro e;simp at e;try omega
  ·refine zy rfl ?_;have KK:=qgv (qhb c6 (qhb c7 (qhb k0 (qhb k1 (qhb k2 (qhb k3 (qhb k4 k5)))))));have ⟨H6,HGS⟩:=qH a7 gs;clear k0 k1 k2 k3 k4 k5 c6 c7 hi a7 gs hl b0;go_wp2;have gs:=HGS.out;have n6:l[6]?.getD false=false:=by
    cases h:l[6]?.getD false with
    | false=>rfl
    | true=>have:=KK.out.1 h;simp[H6.out] at this
   have n7:l[7]?.getD false=false:=by
    cases h:l[7]?.getD false with
    | false=>rfl
    | true=>rw[KK.out.2.1 h] at n6;cases n6
   obtain⟨c6,c7,k0,k1,k2,k3,k4,k5⟩:=KK.out;refine⟨HG.out.trans (qgw _ _ none),by simp[gs,n6],by simp[gs,n7],T8,_,x,y,z,u,rfl,by simpa[gs] using k0,by simpa[gs] using k1,by simpa[gs] using k2,by simpa[gs] using k3,λh=>?_,λ_=>⟨w1.heap.size,rfl,hsz,?_⟩⟩
   ·obtain⟨B1,e,hb,hh,hn⟩:=k4 (by simpa[gs] using h);refine⟨B1,e,hb,by simpa[gs] using qp hh,λ_=>?_⟩;have:=(qgy.1 hh).1;rw[e];intro e;simp at e;try omega
   ·rw[show(l.setIfInBounds 5 true)[7]?.getD false=false by simp[gs,n7]];exact qgF w1 (qG λ_=>0)
  ·have a6:=zo hi rfl;simp[qi3] at a6;have d0:l[0]?.getD false=true:=by(repeat(first | exact a6 | exact a6.1 | replace a6:=a6.2))
   have d1:l[1]?.getD false=true:=by(repeat(first | exact a6 | exact a6.1 | replace a6:=a6.2))
   have d3:l[3]?.getD false=true:=by(repeat(first | exact a6 | exact a6.1 | replace a6:=a6.2))
   have d4:l[4]?.getD false=true:=by(repeat(first | exact a6 | exact a6.1 | replace a6:=a6.2))
   have d5:l[5]?.getD false=true:=by(repeat(first | exact a6 | exact a6.1 | replace a6:=a6.2))
   have D:=qgv (qhb d0 (qhb d1 (qhb d3 (qhb d4 d5))));obtain⟨B1,rfl,hb1,a9,hne⟩:=k4 d4;obtain⟨B2,rfl,b7,a8⟩:=k5 d5;obtain rfl:=k1 d1;obtain rfl:=k3 d3;obtain rfl:=k0 d0;have hne:B2≠B1:=λe=>hne d5 (by rw[e]);have n7:l[7]?.getD false=false:=by
    cases h:l[7]?.getD false with
    | false=>rfl
    | true=>rw[c7 h] at a7;cases a7
   rw[a7] at a9;rw[n7] at a8;have N7:=qgv n7;clear n7;simp only[qhy,if_true,if_false,reduceIte] at a9 a8;have ⟨HH1,HH2⟩:=qH a9 a8;have a0:=ql a9 (show 0<5 by omega);have a1:=ql a9 (show 1<5 by omega);have a2:=ql a9 (show 2<5 by omega);have a3:=ql a9 (show 3<5 by omega);have a4:=ql a9 (show 4<5 by omega);have fz:=jn a9;have d9:=(qgy.1 a9).1;refine zy rfl ?_;have ⟨H6,K2,HGS⟩:=z8 a7 k2 gs;clear a9 a8 a6 d0 d1 d3 d4 d5 k0 k1 k2 k3 k4 k5 c6 c7 hi a7 gs hl b0;unfold wts;go_wp2;have gs:=HGS.out;have hW:(((((w1.setCell ⟨B1,0,none⟩ (.int .i64 (gm 0))).setCell ⟨B1,1,none⟩ (.int .i64 (gm 1))).setCell ⟨B1,2,none⟩ (.int .i64 (gm 2))).setCell ⟨B1,3,none⟩ (.int .i64 (gm 3))).setCell ⟨B1,4,none⟩ (.int .i64 (gm 4))).heap[B1]?=some (qG gm):=by
    rw[qg (qg (qg (qg (qg HH1.out))))];rfl
   have hG:w1.grownBy (((((w1.setCell ⟨B1,0,none⟩ (.int .i64 (gm 0))).setCell ⟨B1,1,none⟩ (.int .i64 (gm 1))).setCell ⟨B1,2,none⟩ (.int .i64 (gm 2))).setCell ⟨B1,3,none⟩ (.int .i64 (gm 3))).setCell ⟨B1,4,none⟩ (.int .i64 (gm 4))) (some B1) :=
    ((((qe _ _ _ _).trans (qe _ _ _ _)).trans (qe _ _ _ _)).trans (qe _ _ _ _)).trans (qe _ _ _ _)
   refine⟨HG.out.andThen (row':=some B1) hG (by rintro j e;cases e;exact .inl (by omega)),?_,?_,_,_,_,_,_,_,rfl,λ_=>rfl,λ_=>rfl,?_,λ_=>rfl,λ_=>⟨B1,rfl,hb1,?_,λ_=>by intro e;simp at e;try omega⟩,λ_=>⟨B2,rfl,b7,?_⟩⟩
   ·intro _;obtain⟨d0,d1,d3,d4,d5⟩:=D.out;simp[gs,d0,d1,d3,d4,d5]
   ·intro h;rw[gs 6 7 (by omega)] at h;simp[N7.out] at h
   ·simpa[gs] using K2.out
   ·rw[show(l.setIfInBounds 6 true)[6]?.getD false=true by simp[gs]];exact hW
   ·rw[show(l.setIfInBounds 6 true)[7]?.getD false=false by simp[gs,N7.out]];exact blk hG (by simp;omega) HH2.out
  ·have a6:=zo hi rfl;simp[qi3] at a6;have d0:l[0]?.getD false=true:=by(repeat(first | exact a6 | exact a6.1 | replace a6:=a6.2))
   have d1:l[1]?.getD false=true:=by(repeat(first | exact a6 | exact a6.1 | replace a6:=a6.2))
   have d3:l[3]?.getD false=true:=by(repeat(first | exact a6 | exact a6.1 | replace a6:=a6.2))
   have d4:l[4]?.getD false=true:=by(repeat(first | exact a6 | exact a6.1 | replace a6:=a6.2))
   have d5:l[5]?.getD false=true:=by(repeat(first | exact a6 | exact a6.1 | replace a6:=a6.2))
   have D:=qgv (qhb d0 (qhb d1 (qhb d3 (qhb d4 d5))));have d6:l[6]?.getD false=true:=by(repeat(first | exact a6 | exact a6.1 | replace a6:=a6.2))
   have D6:=qgv d6;obtain⟨B1,rfl,hb1,a9,hne⟩:=k4 d4;obtain⟨B2,rfl,b7,a8⟩:=k5 d5;obtain rfl:=k1 d1;obtain rfl:=k3 d3;obtain rfl:=k0 d0;have hne:B2≠B1:=λe=>hne d5 (by rw[e]);rw[d6] at a9;rw[a7] at a8;clear d6;simp only[qhy,if_true,if_false,reduceIte] at a9 a8;have ⟨HH1,HH2⟩:=qH a9 a8;have a0:=ql a8 (show 0<5 by omega);have a1:=ql a8 (show 1<5 by omega);have a2:=ql a8 (show 2<5 by omega);have a3:=ql a8 (show 3<5 by omega);have a4:=ql a8 (show 4<5 by omega);have fz:=jn a8;have d8:=(qgy.1 a8).1;refine zy rfl ?_;have ⟨H6,K2,HGS⟩:=z8 a7 k2 gs;clear a9 a8 a6 d0 d1 d3 d4 d5 k0 k1 k2 k3 k4 k5 c6 c7 hi a7 gs hl b0;unfold wts;go_wp2;have gs:=HGS.out;have hW:(((((w1.setCell ⟨B2,0,none⟩ (.int .i64 (gx 0))).setCell ⟨B2,1,none⟩ (.int .i64 (gx 1))).setCell ⟨B2,2,none⟩ (.int .i64 (gx 2))).setCell ⟨B2,3,none⟩ (.int .i64 (gx 3))).setCell ⟨B2,4,none⟩ (.int .i64 (gx 4))).heap[B2]?=some (qG gx):=by
    rw[qg (qg (qg (qg (qg HH2.out))))];rfl
   have hG:w1.grownBy (((((w1.setCell ⟨B2,0,none⟩ (.int .i64 (gx 0))).setCell ⟨B2,1,none⟩ (.int .i64 (gx 1))).setCell ⟨B2,2,none⟩ (.int .i64 (gx 2))).setCell ⟨B2,3,none⟩ (.int .i64 (gx 3))).setCell ⟨B2,4,none⟩ (.int .i64 (gx 4))) (some B2) :=
    ((((qe _ _ _ _).trans (qe _ _ _ _)).trans (qe _ _ _ _)).trans (qe _ _ _ _)).trans (qe _ _ _ _)
   refine⟨HG.out.andThen (row':=some B2) hG (by rintro j e;cases e;exact .inl (by omega)),?_,?_,_,_,_,_,_,_,rfl,λ_=>rfl,λ_=>rfl,?_,λ_=>rfl,λ_=>⟨B1,rfl,hb1,?_,λ_=>by intro e;simp at e;try omega⟩,λ_=>⟨B2,rfl,b7,?_⟩⟩
   ·intro _;obtain⟨d0,d1,d3,d4,d5⟩:=D.out;simp[gs,d0,d1,d3,d4,d5]
   ·intro _;simp[gs,D6.out]
   ·simpa[gs] using K2.out
   ·rw[show(l.setIfInBounds 7 true)[6]?.getD false=true by simp[gs,D6.out]];exact blk hG (by simp;omega) HH1.out
   ·rw[show(l.setIfInBounds 7 true)[7]?.getD false=true by simp[gs]];exact hW
 ·intro l a w1 hl hI hr;obtain⟨hg,c6,c7,T8,T9,x,y,z,u,rfl,k0,k1,k2,k3,k4,k5⟩:=hI;have q0:=zT hr hl (i:=0) rfl (by simp[qi3]);have q1:=zT hr hl (i:=1) rfl (by simp[qi3,q0]);have q2:=zT hr hl (i:=2) rfl (by simp[qi3]);have q3:=zT hr hl (i:=3) rfl (by simp[qi3,q1,q2]);have q4:=zT hr hl (i:=4) rfl (by simp[qi3]);have q5:=zT hr hl (i:=5) rfl (by simp[qi3]);have q6:=zT hr hl (i:=6) rfl (by simp[qi3,q0,q1,q2,q3,q4,q5]);have q7:=zT hr hl (i:=7) rfl (by simp[qi3,q0,q1,q2,q3,q4,q5,q6]);obtain⟨B1,rfl,hb1,a9,hne⟩:=k4 q4;obtain⟨B2,rfl,b7,a8⟩:=k5 q5;rw[q6] at a9;rw[q7] at a8;exact HR.out B1 B2 w1 x y z u hg (by simpa using a9) (by simpa using a8) (λe=>hne q5 (by rw[e])) hb1 b7
end
section
open Go Go.RowKit Go.Co
noncomputable def cB0:qje:=inn (inn (sqB (sqA (sqB (sqB (Tryz.f137.body.getD .skip))))))
noncomputable def cB1:qje:=inn (sqA (sqB (sqB cB0)))
noncomputable def cL2:qje:=sqB (sqA (sqB (sqB (sqB cB1))))
noncomputable def cB3:qje:=inn (sqA (sqB (sqB (inn (inn cL2)))))
noncomputable def cIn:qje:=sqB (sqB cB3)
def YL(g:Nat->Int)(n:Nat)(v:Int):Nat->Int:=λd=>if d=n then v else g d
def ZG(g:Nat->Int):List qgB:=[.int .i64 (g 0),.int .i64 (g 1),.int .i64 (g 2),.int .i64 (g 3),.int .i64 (g 4)]
def zZ(L:List (Nat->Int)):List qgB:=L.flatMap ZG
def kW(g:Nat->Int)(n:Nat)(mn:Int)(k:Nat):List (Nat->Int):=(qht k).map λm:Nat=>YL g n (mn+(m:Int))
theorem q5F(g:Nat->Int)(n:Nat)(mn:Int)(k:Nat):kW g n mn (k+1)=kW g n mn k++[YL g n (mn+k)]:=by
 simp[kW,qkH]
theorem q8h(g:Nat->Int)(n:Nat)(mn:Int)(k:Nat):(kW g n mn k).length=k:=by simp[kW]
theorem q69(L:List (Nat->Int))(g:Nat->Int):zZ (L++[g])=zZ L++ZG g:=by simp[zZ]
theorem qat(g:Nat->Int):zi (ZG g):=by
 intro v hv;simp only[ZG,qix,qiF,or_false] at hv;rcases hv with rfl | rfl | rfl | rfl | rfl<;>exact⟨_,_,rfl⟩
theorem Tp.und152:Ya.underlying 152=some (.slice 101):=by rw[Tp.und];exact Tryz.underlying152
theorem Tp.info101p:(Ya.info? 101).map (λi=>(i.zero,i.size,i.bytes))=some (some (.agg #[.int .i64 0,.int .i64 0,.int .i64 0,.int .i64 0,.int .i64 0]),5,40):=by kernel_rfl
theorem q83(g:Nat->Int)(n:Nat)(a b:Int):(λd=>if d=n then b else YL g n a d)=YL g n b:=by
 funext d
 unfold YL;split<;>rfl
def gAt(g:Nat->Int)(n:Nat)(mn:Int)(m:Nat):Nat->Int:=if m=0 then g else YL g n (mn+(m - 1:Int))
theorem qdg(g:Nat->Int)(n:Nat)(mn:Int)(m:Nat):(λd=>if d=n then mn+(m:Int) else gAt g n mn m d)=YL g n (mn+m):=by
 unfold gAt;split
 ·rfl
 ·exact q83 _ _ _ _
theorem qbi(g:Nat->Int)(n:Nat)(mn:Int)(m:Nat):gAt g n mn (m+1)=YL g n (mn+m):=by
 unfold gAt;simp
theorem qbc(t:Nat->qgB)(wm w:qgx)(R:Act->qgx->Prop)(n OB Wb k:Nat)(mn mx:Int)(g:Nat->Int)(L:List (Nat->Int))(nv:qgB)(h7:t 7=.int .i64 n)(hn:n<5)(h8:t 8=nv)(h9:t 9=.pointer (some OB))(hO:wm.heap[OB]?=some (.cells #[mn,mx] 26 (0,0)))(b9:t 11=.pointer (some Wb))(hW:w.heap[Wb]?=some (qG g))(k5:wm.heap.size<=Wb)(b8:t 39=.int .i64 k)(b7:t 40=.int .i64 0)(hg:wm.grownBy w none)(hown:w.ownsRow wm.heap.size 101 5 nv L.length (zZ L))(hI:∀b,nv.ownBlock=some b->zj w b/\b≠Wb)(l5:0<=mn/\mn<=1000)(hk:k<=2000)(hL:L.length+k<=900000)(hR:∀(x8 g5 e9 e8 e7 e6 e5 e4 d9 d8 d7 d6 d5 c9 c8 c3:qgB) w',wm.grownBy w' none->w'.ownsRow wm.heap.size 101 5 x8 (L.length+k) (zZ (L++kW g n mn k))->(∀b,x8.ownBlock=some b->zj w' b) ->R ⟨#[t 0,t 1,t 2,t 3,t 4,t 5,t 6,.int .i64 n,x8,.pointer (some OB),t 10,.pointer (some Wb),g5,t 13,t 14,t 15,t 16,t 17,t 18,t 19,t 20,t 21,t 22,t 23,t 24,t 25,t 26,t 27,t 28,t 29,t 30,t 31,t 32,t 33,t 34,t 35,t 36,t 37,t 38,.int .i64 k,e9,e8,e7,e6,e5,e4,d9,d8,d7,d6,d5,c9,c8,c3,t 54,t 55,t 56,t 57],[]⟩ w') :(inn cIn).wp Ya (qlt 4 (yh R)) ⟨#[t 0,t 1,t 2,t 3,t 4,t 5,t 6,t 7,t 8,t 9,t 10,t 11,t 12,t 13,t 14,t 15,t 16,t 17,t 18,t 19,t 20,t 21,t 22,t 23,t 24,t 25,t 26,t 27,t 28,t 29,t 30,t 31,t 32,t 33,t 34,t 35,t 36,t 37,t 38,t 39,t 40,t 41,t 42,t 43,t 44,t 45,t 46,t 47,t 48,t 49,t 50,t 51,t 52,t 53,t 54,t 55,t 56,t 57],[]⟩ w:=by
 obtain⟨i0,k0,g8,g7,g6⟩:=qjj Tp.info101p;have ⟨HR,HO,HW,HG,HN,HI⟩:=Kh hR hO hW hg hown hI;have l7:OB<wm.heap.size:=(qgy.1 hO).1;clear hR hO hW hg hown hI;rw[h7,h8,h9,b9,b8,b7];clear h7 h8 h9 b9 b8 b7;simp only[cIn,cB3,cL2,cB1,cB0,qpq,qgH,sqA,sqB,inn];go_wp2;go_loopw [8,40] (λov iv wr=>∃m:Nat,iv=.int .i64 m/\m<=k/\wm.grownBy wr none/\wr.heap[Wb]?=some (qG (gAt g n mn m))/\wr.ownsRow wm.heap.size 101 5 ov (L.length+m) (zZ (L++kW g n mn m))/\∀b,ov.ownBlock=some b->zj wr b/\b≠Wb) (λ_ iv _=>(k - qi9 iv).toNat)
 case atStart=>exact⟨0,rfl,by omega,HG.out,HW.out,by simpa[kW] using HN.out,HI.out⟩
 case round=>
  obtain⟨m,rfl,hm,hG,hB,hO,hN⟩:=hrel;obtain⟨oa,om,oc,rfl⟩:=zt hO;have ⟨HGm,HBm,HOm,HNm⟩:=zY hG hB hO hN;have o0:=hG.cl (q8 HO.out (o:=0) rfl);have l6:Wb<wr.heap.size:=(qgy.1 hB).1;by_cases hlt:m<k
  ·have d1:=ql hB hn;have f1:=jn hB;have k7:(m:Int)<(k:Int):=by omega
   have k9:(n:Int)<5:=by omega
   clear hG hB hO hN;have k6:IntKind.i64.wrap (mn+(m:Int))=mn+m:=qhp _ (by omega);go_upto_region 14 with(fail);obtain⟨w1,a6⟩:∃w1,w1=wr.setCell ⟨Wb,n,none⟩ (.int .i64 (mn+m)):=⟨_,rfl⟩;have q1:w1.heap[Wb]?=some (qG (YL g n (mn+m))):=by
    rw[a6,<- qdg];exact xZ HBm.out hn
   have g1:wr.grownBy w1 (some Wb):=by rw[a6];exact qe _ _ _ _
   have q2:wm.grownBy w1 none:=HGm.out.andThen g1 (by rintro j e;cases e;exact .inl k5);have q3:w1.ownsRow wm.heap.size 101 5 (.slice oa om oc) (L.length+m) (zZ (L++kW g n mn m)):=HOm.out.kept g1 (.inr λe=>by
    have:=(HNm.out _ e).2;exact this rfl)
   have q4:∀b,(qi1 oa om oc).ownBlock=some b->zj w1 b/\b≠Wb:=λb hb=>by
    obtain⟨⟨cs,e,f,h1,h2⟩,h3⟩:=HNm.out b hb;exact⟨⟨cs,e,f,blk g1 (by intro e;cases e;exact h3 rfl) h1,h2⟩,h3⟩
   have g9:w1.heap.size=wr.heap.size:=by rw[a6];simp
   have r0:=ql q1 (show 0<5 by omega);have r1:=ql q1 (show 1<5 by omega);have r2:=ql q1 (show 2<5 by omega);have r3:=ql q1 (show 3<5 by omega);have r4:=ql q1 (show 4<5 by omega);rw[<- a6];have ⟨HQ1,HQ2,HQ3,HQ4⟩:=zY q1 q2 q3 q4;have k8:Wb<w1.heap.size:=by omega
   have l4:wm.heap.size<=w1.heap.size:=q2.size;clear q1 q2 q3 q4 g1 a6 d1 f1 o0 g9;generalize b0:YL g n (mn+(m:Int))=gg at r0 r1 r2 r3 r4 HQ1;go_wp2_with (at_builtin;(refine Z1 (by rfl) _ _ _ (by rfl) wm.heap.size 101 i0 _ 5 40 Tp.und152 k0 g8 g7 g6 rfl (by omega) (.slice oa om oc) (L.length+m) (zZ (L++kW g n mn m)) (by rfl) (by exact HQ3.out.alloc _) ⟨w1.heap.size,0,none⟩ 1 1 (ZG gg) (by rfl) (by rfl) (qiw (cs:=(ZG gg).toArray) (t:=101) (fr:=(0,0)) (qgF w1 _)) (by simp[ZG,qjk]) (by omega) (by unfold qkq;omega) (by omega) (by simp;omega) (w1.heap.size+1) (by simp) (λb hb=>by obtain⟨⟨cs,e,f,h1,h2⟩,_⟩:=HQ4.out b hb;exact⟨cs,e,f,qp h1,h2⟩) (qat gg) (by intro v hv;simp[qnE] at hv;exact⟨_,_,hv⟩) ?_);intro gi cap w5 a7 a8 b6 hgl a9;have HG5:=qgv a8;have HO5:=qgv a7;have HA5:=qgv b6;have HI5:=qgv a9;clear a8 a7 b6 a9);refine⟨⟨m+1,by simp,by omega,?_,?_,?_,?_⟩,by simp[qi9];omega⟩
   ·exact(HQ2.out.trans (qgw _ _ none)).andThen HG5.out λj e=>.inl (HQ3.out.lt j e).1
   ·rw[qbi,b0];exact blk HG5.out (λe=>(HQ4.out Wb e.symm).2 rfl) (qp HQ1.out)
   ·rw[q5F,<- qjp,q69,b0];exact HO5.out
   ·intro b hb;have hb':gi=b:=by simpa[qhB] using hb
    subst hb';refine⟨HI5.out,?_⟩;rcases HA5.out with e | e
    ·exact(HQ4.out gi e).2
    ·omega
  ·obtain rfl:m=k:=by omega
   clear hG hB hO hN;go_wp2;exact HR.out _ _ _ _ _ _ _ _ _ _ _ _ _ _ _ _ wr HGm.out HOm.out λb hb=>(HNm.out b hb).1
theorem q78(x:Array qgB)(h:x.size=58):∃y0 y1 y2 y3 y4 y5 y6 y7 y8 y9 y10 y11 y12 y13 y14 y15 y16 y17 y18 y19 y20 y21 y22 y23 y24 y25 y26 y27 y28 y29 y30 y31 y32 y33 y34 y35 y36 y37 y38 y39 y40 y41 y42 y43 y44 y45 y46 y47 y48 y49 y50 y51 y52 y53 y54 y55 y56 y57,x=#[y0,y1,y2,y3,y4,y5,y6,y7,y8,y9,y10,y11,y12,y13,y14,y15,y16,y17,y18,y19,y20,y21,y22,y23,y24,y25,y26,y27,y28,y29,y30,y31,y32,y33,y34,y35,y36,y37,y38,y39,y40,y41,y42,y43,y44,y45,y46,y47,y48,y49,y50,y51,y52,y53,y54,y55,y56,y57]:=by
 have e:=QC x;rw[h] at e;exact⟨_,_,_,_,_,_,_,_,_,_,_,_,_,_,_,_,_,_,_,_,_,_,_,_,_,_,_,_,_,_,_,_,_,_,_,_,_,_,_,_,_,_,_,_,_,_,_,_,_,_,_,_,_,_,_,_,_,_,e.trans rfl⟩
theorem qgc(z:Array qgB)(h:z.size=58):z=#[z[0]?.getD qgD,z[1]?.getD qgD,z[2]?.getD qgD,z[3]?.getD qgD,z[4]?.getD qgD,z[5]?.getD qgD,z[6]?.getD qgD,z[7]?.getD qgD,z[8]?.getD qgD,z[9]?.getD qgD,z[10]?.getD qgD,z[11]?.getD qgD,z[12]?.getD qgD,z[13]?.getD qgD,z[14]?.getD qgD,z[15]?.getD qgD,z[16]?.getD qgD,z[17]?.getD qgD,z[18]?.getD qgD,z[19]?.getD qgD,z[20]?.getD qgD,z[21]?.getD qgD,z[22]?.getD qgD,z[23]?.getD qgD,z[24]?.getD qgD,z[25]?.getD qgD,z[26]?.getD qgD,z[27]?.getD qgD,z[28]?.getD qgD,z[29]?.getD qgD,z[30]?.getD qgD,z[31]?.getD qgD,z[32]?.getD qgD,z[33]?.getD qgD,z[34]?.getD qgD,z[35]?.getD qgD,z[36]?.getD qgD,z[37]?.getD qgD,z[38]?.getD qgD,z[39]?.getD qgD,z[40]?.getD qgD,z[41]?.getD qgD,z[42]?.getD qgD,z[43]?.getD qgD,z[44]?.getD qgD,z[45]?.getD qgD,z[46]?.getD qgD,z[47]?.getD qgD,z[48]?.getD qgD,z[49]?.getD qgD,z[50]?.getD qgD,z[51]?.getD qgD,z[52]?.getD qgD,z[53]?.getD qgD,z[54]?.getD qgD,z[55]?.getD qgD,z[56]?.getD qgD,z[57]?.getD qgD]:=by
 obtain⟨y0,y1,y2,y3,y4,y5,y6,y7,y8,y9,y10,y11,y12,y13,y14,y15,y16,y17,y18,y19,y20,y21,y22,y23,y24,y25,y26,y27,y28,y29,y30,y31,y32,y33,y34,y35,y36,y37,y38,y39,y40,y41,y42,y43,y44,y45,y46,y47,y48,y49,y50,y51,y52,y53,y54,y55,y56,y57,rfl⟩:=q78 z h;rfl
def j8:List Nat:=[8,12,40,41,42,43,44,45,46,47,48,49,50,51,52,53]
theorem qbb(z:Array qgB)(hz:z.size=58)(wm w:qgx)(R:Act->qgx->Prop)(n OB Wb k:Nat)(mn mx:Int)(g:Nat->Int)(L:List (Nat->Int))(nv:qgB)(h7:z[7]?=some (.int .i64 n))(hn:n<5)(h8:z[8]?=some nv)(h9:z[9]?=some (.pointer (some OB)))(hO:wm.heap[OB]?=some (.cells #[mn,mx] 26 (0,0)))(b8:z[11]?=some (.pointer (some Wb)))(hW:w.heap[Wb]?=some (qG g))(b0:wm.heap.size<=Wb)(b7:z[39]?=some (.int .i64 k))(b6:z[40]?=some (.int .i64 0))(hg:wm.grownBy w none)(hown:w.ownsRow wm.heap.size 101 5 nv L.length (zZ L))(hI:∀b,nv.ownBlock=some b->zj w b/\b≠Wb)(a9:0<=mn/\mn<=1000)(hk:k<=2000)(hL:L.length+k<=900000)(hR:∀(z':Array qgB) (x8:qgB) w',z'.size=58->z'[8]?=some x8->(∀j,j<58->j∉j8->z'[j]?=z[j]?)->wm.grownBy w' none->w'.ownsRow wm.heap.size 101 5 x8 (L.length+k) (zZ (L++kW g n mn k))->(∀b,x8.ownBlock=some b->zj w' b)->R ⟨z',[]⟩ w') :(inn cIn).wp Ya (qlt 4 (yh R)) ⟨z,[]⟩ w:=by
 generalize ht:(λk:Nat=>z[k]?.getD qgD)=t;have a6:z=#[t 0,t 1,t 2,t 3,t 4,t 5,t 6,t 7,t 8,t 9,t 10,t 11,t 12,t 13,t 14,t 15,t 16,t 17,t 18,t 19,t 20,t 21,t 22,t 23,t 24,t 25,t 26,t 27,t 28,t 29,t 30,t 31,t 32,t 33,t 34,t 35,t 36,t 37,t 38,t 39,t 40,t 41,t 42,t 43,t 44,t 45,t 46,t 47,t 48,t 49,t 50,t 51,t 52,t 53,t 54,t 55,t 56,t 57]:=by subst ht;exact qgc z hz
 have e7:t 7=.int .i64 n:=by subst ht;show z[7]?.getD qgD=_;rw[h7];rfl
 have e8:t 8=nv:=by subst ht;show z[8]?.getD qgD=_;rw[h8];rfl
 have e9:t 9=.pointer (some OB):=by subst ht;show z[9]?.getD qgD=_;rw[h9];rfl
 have a8:t 11=.pointer (some Wb):=by subst ht;show z[11]?.getD qgD=_;rw[b8];rfl
 have a7:t 39=.int .i64 k:=by subst ht;show z[39]?.getD qgD=_;rw[b7];rfl
 have b9:t 40=.int .i64 0:=by subst ht;show z[40]?.getD qgD=_;rw[b6];rfl
 rw[a6];refine qbc t wm w R n OB Wb k mn mx g L nv e7 hn e8 e9 hO a8 hW b0 a7 b9 hg hown hI a9 hk hL ?_;intro x8 g8 g7 g6 g5 e6 e5 e4 d9 d8 d7 d6 d5 c9 c8 c3 w' a1 a2 a3;refine hR _ x8 w' rfl rfl (λj hj hn=>?_) a1 a2 a3;rw[a6,<- e7,<- e9,<- a8,<- a7];unfold j8 at hn;obtain rfl | rfl | rfl | rfl | rfl | rfl | rfl | rfl | rfl | rfl | rfl | rfl | rfl | rfl | rfl | rfl | rfl | rfl | rfl | rfl | rfl | rfl | rfl | rfl | rfl | rfl | rfl | rfl | rfl | rfl | rfl | rfl | rfl | rfl | rfl | rfl | rfl | rfl | rfl | rfl | rfl | rfl | rfl | rfl | rfl | rfl | rfl | rfl | rfl | rfl | rfl | rfl | rfl | rfl | rfl | rfl | rfl | rfl:j=0\/j=1\/j=2\/j=3\/j=4\/j=5\/j=6\/j=7\/j=8\/j=9\/j=10\/j=11\/j=12\/j=13\/j=14\/j=15\/j=16\/j=17\/j=18\/j=19\/j=20\/j=21\/j=22\/j=23\/j=24\/j=25\/j=26\/j=27\/j=28\/j=29\/j=30\/j=31\/j=32\/j=33\/j=34\/j=35\/j=36\/j=37\/j=38\/j=39\/j=40\/j=41\/j=42\/j=43\/j=44\/j=45\/j=46\/j=47\/j=48\/j=49\/j=50\/j=51\/j=52\/j=53\/j=54\/j=55\/j=56\/j=57:=by omega
 all_goals first | rfl | (exact absurd (by simp) hn)
def kg(L:List (Nat->Int))(n:Nat)(mn:Int)(k:Nat):List (Nat->Int):=L.flatMap λg=>kW g n mn k
theorem vD(L:List (Nat->Int))(n:Nat)(mn:Int)(k:Nat):(kg L n mn k).length=L.length*k:=by
 unfold kg;induction L with
 | nil=>simp
 | cons g L ih=>simp only[qjr,qio,q8h,ih,qh3];rw[qnG];omega
theorem q5e(L:List (Nat->Int))(n:Nat)(mn:Int)(k:Nat)(i:Nat)(g:Nat->Int)(h:L[i]?=some g):kg (L.take (i+1)) n mn k=kg (L.take i) n mn k++kW g n mn k:=by
 rw[qig,h];simp[kg]
theorem q1m(L:List (Nat->Int))(i:Nat)(g:Nat->Int)(h:L[i]?=some g)(d:Nat)(hd:d<5):(zZ L)[i*5+d]?=some (.int .i64 (g d)):=by
 unfold zZ;induction L generalizing i with
 | nil=>simp at h
 | cons g0 L ih=>
  cases i with
  | zero=>
   simp at h;subst h;rw[qjr,qhz (by simp[ZG];omega)];obtain rfl | rfl | rfl | rfl | rfl:d=0\/d=1\/d=2\/d=3\/d=4:=by omega
   all_goals simp[ZG]
  | succ i=>
   simp at h;rw[qjr,qj3 (by simp[ZG];omega)];rw[show(i+1)*5+d - (ZG g0).length=i*5+d from by simp[ZG];omega];exact ih i h
theorem jY{R:Act->qgx->Prop}{Q:Exit->Act->qgx->Prop}{id:Nat}(h:∀a w,R a w->Q .normal a w):∀e a w,qlt id (yh R) e a w->qlt id Q e a w:=by
 intro e a w hh;cases e with
 | normal=>exact h a w hh
 | exit i=>
  unfold qlt at hh ⊢;by_cases hi:i=id
  ·simp only[hi,if_true] at hh ⊢;exact h a w hh
  ·simp only[hi,if_false] at hh;exact hh.elim
 | goto l=>exact hh.elim
 | ret=>exact hh.elim
 | panic c=>exact hh.elim
 | outgrown=>exact hh.elim
theorem xy{c c':qje}{P:qh2}{Q:Exit->Act->qgx->Prop}{a:Act}{w:qgx}(e:c=c')(h:c'.wp P Q a w):c.wp P Q a w:=e ▸ h
theorem qeG(z:Array qgB)(hz:z.size=58)(w:qgx)(R:Act->qgx->Prop)(n OB A oc base k:Nat)(mn mx:Int)(L:List (Nat->Int))(h7:z[7]?=some (.int .i64 n))(hn:n<5)(h8:z[8]?=some (.slice none 0 0))(h9:z[9]?=some (.pointer (some OB)))(hO:w.heap[OB]?=some (.cells #[mn,mx] 26 (0,0)))(l5:z[28]?=some (.slice (some A) L.length oc))(l4:z[29]?=some (.int .i64 L.length))(a9:z[30]?=some (.int .i64 0))(hown:w.ownsRow base 101 5 (.slice (some A) L.length oc) L.length (zZ L))(l9:0<=mn/\mn<=mx/\mx<=1000)(hk:(k:Int)=mx - mn+1)(hL:L.length*k<=900000)(hR:∀(z':Array qgB) (x8:qgB) w',z'.size=58->z'[8]?=some x8->(∀j,j<58->j<8\/(8<j/\j<11)\/(12<j/\j<30)\/54<j->z'[j]?=z[j]?)->w.grownBy w' none->w'.ownsRow w.heap.size 101 5 x8 (L.length*k) (zZ (kg L n mn k))->(∀b,x8.ownBlock=some b->zj w' b)->R ⟨z',[]⟩ w') :(inn cL2).wp Ya (qlt 2 (yh R)) ⟨z,[]⟩ w:=by
 obtain⟨y0,y1,y2,y3,y4,y5,y6,y7,y8,y9,y10,y11,y12,y13,y14,y15,y16,y17,y18,y19,y20,y21,y22,y23,y24,y25,y26,y27,y28,y29,y30,y31,y32,y33,y34,y35,y36,y37,y38,y39,y40,y41,y42,y43,y44,y45,y46,y47,y48,y49,y50,y51,y52,y53,y54,y55,y56,y57,rfl⟩:=q78 z hz;simp at h7 h8 h9 l5 l4 a9;subst h7 h8 h9 l5 l4 a9;have ⟨HR,HO,HL⟩:=z8 hR hO hown;have u7:OB<w.heap.size:=(qgy.1 hO).1;have u8:L.length<=900000:=qh0 (Nat.le_mul_of_pos_right _ (by omega)) hL;clear hR hO hown hz;simp only[cL2,cB1,cB0,qpq,qgH,sqA,sqB,inn];go_wp2;go_loopw [8,30] (λov iv wr=>∃i:Nat,iv=.int .i64 i/\i<=L.length/\w.grownBy wr none/\wr.ownsRow w.heap.size 101 5 ov (i*k) (zZ (kg (L.take i) n mn k))/\∀b,ov.ownBlock=some b->zj wr b) (λ_ iv _=>(L.length - qi9 iv).toNat)
 case atStart=>exact⟨0,rfl,by omega,qh1 _ _,by simpa[kg,zZ] using qjh w w.heap.size 101 5,λb hb=>by simp[qhB] at hb⟩
 case round=>
  obtain⟨i,rfl,hi,hG,hO,hN⟩:=hrel;obtain⟨oa,om,a8,rfl⟩:=zt hO;have ⟨HGi,HOi,HNi⟩:=z8 hG hO hN;have hsz:=hG.size;by_cases hlt:i<L.length
  ·obtain⟨g,hg⟩:∃g,L[i]?=some g:=⟨_,qgG hlt⟩;have hA:=(HL.out.lt A rfl).2;have cA:∀d,d<5->wr.cell? ⟨A,i*5+d,none⟩=some (.int .i64 (g d)):=λd hd=>by
    have h1:=HL.out.cellAt (i*5+d) (by omega);rw[q1m L i g hg d hd] at h1;exact hG.cl h1
   have c0:wr.cell? ⟨A,i*5,none⟩=some (.int .i64 (g 0)):=cA 0 (by omega);have c1:=cA 1 (by omega);have c2:=cA 2 (by omega);have c3:=cA 3 (by omega);have c4:=cA 4 (by omega);have o0:=hG.cl (q8 HO.out (o:=0) rfl);have o1:=hG.cl (q8 HO.out (o:=1) rfl);have m4:(i:Int)<(L.length:Int):=by omega
   have u6:IntKind.i64.wrap (mx - mn)=mx - mn:=qhp _ (by omega);have u5:IntKind.i64.wrap (mx - mn+1)=mx - mn+1:=qhp _ (by omega);have HGG:=qgv hg;clear hG hO hN cA hg;go_upto_region 10 with(fail);obtain⟨Wb,b0⟩:∃Wb,Wb=wr.heap.size:=⟨_,rfl⟩;obtain⟨w1,a7⟩:∃w1,w1=wr.alloc (qG g):=⟨_,rfl⟩;have q1:w1.heap[Wb]?=some (qG g):=by rw[a7,b0];exact qgF wr _
   have g1:wr.grownBy w1 none:=by rw[a7];exact qgw _ _ none
   have q2:w.grownBy w1 none:=HGi.out.trans g1;have q3:w1.ownsRow w.heap.size 101 5 (.slice oa om a8) (i*k) (zZ (kg (L.take i) n mn k)):=by rw[a7];exact HOi.out.alloc _
   have q4:∀b,(qi1 oa om a8).ownBlock=some b->zj w1 b/\b≠Wb:=λb hb=>by
    obtain⟨cs,e,f,h1,h2⟩:=HNi.out b hb;exact⟨⟨cs,e,f,by rw[a7];exact qp h1,h2⟩,by have:=(HOi.out.lt b hb).2;omega⟩
   have p0:=g1.cl o0;have p1:=g1.cl o1;rw[<- b0];rw[show wr.alloc (.cells #[.int .i64 (g 0),.int .i64 (g 1),.int .i64 (g 2),.int .i64 (g 3),.int .i64 (g 4)] 101)=w1 from a7.symm];have ⟨HQ1,HQ2,HQ3,HQ4⟩:=zY q1 q2 q3 q4;have m3:w.heap.size<=Wb:=by omega
   clear q1 q2 q3 q4 g1 a7 b0 c0 c1 c2 c3 c4 o0 o1;go_wp2;refine qni (jY (R:=λa u=>∃(z':Array qgB) (x8:qgB),a=⟨z',[]⟩/\z'.size=58/\z'[8]?=some x8/\(∀j,j<58->j∉j8->z'[j]?=(#[y0,y1,y2,y3,y4,y5,y6,.int .i64 n,.slice oa om a8,.pointer (some OB),y10,.pointer (some Wb),qgD,y13,y14,y15,y16,y17,y18,y19,y20,y21,y22,y23,y24,y25,y26,y27,.slice (some A) L.length oc,.int .i64 L.length,.int .i64 i]:Array qgB)[j]?\/30<j)/\(z'[55]?=some y55/\z'[56]?=some y56/\z'[57]?=some y57)/\w.grownBy u none/\u.ownsRow w.heap.size 101 5 x8 ((i+1)*k) (zZ (kg (L.take (i+1)) n mn k))/\∀b,x8.ownBlock=some b->zj u b) ?_) ?_;rotate_left
   ·refine xy (c':=inn cIn) (by simp only[cIn,cB3,cL2,cB1,cB0,qpq,qgH,sqA,sqB,inn]) ?_;have hlen:(kg (L.take i) n mn k).length=i*k:=by rw[vD,qjz,qp9 (by omega)]
    have hik:i*k+k<=900000:=by
     have h1:(i+1)*k<=L.length*k:=Nat.mul_le_mul_right _ hlt;rw[qnG] at h1;omega
    refine qbb _ rfl w w1 _ n OB Wb k mn mx g (kg (L.take i) n mn k) (.slice oa om a8) rfl hn rfl rfl HO.out rfl HQ1.out m3 (by rw[hk];rfl) rfl HQ2.out (by rw[hlen];exact HQ3.out) HQ4.out ⟨l9.1,by omega⟩ (by omega) (by rw[hlen];exact hik) ?_;intro z' x8 w' b1 b2 b3 b4 b5 b6;refine⟨z',x8,rfl,b1,b2,λj hj hn=>?_,⟨(b3 55 (by omega) (by simp[j8])).trans rfl,(b3 56 (by omega) (by simp[j8])).trans rfl,(b3 57 (by omega) (by simp[j8])).trans rfl⟩,b4,?_,b6⟩
    ·by_cases a9:30<j
     ·exact .inr a9
     ·left;rw[b3 j hj hn];have u9:j≠12:=λe=>hn (by subst e;simp[j8]);obtain rfl | rfl | rfl | rfl | rfl | rfl | rfl | rfl | rfl | rfl | rfl | rfl | rfl | rfl | rfl | rfl | rfl | rfl | rfl | rfl | rfl | rfl | rfl | rfl | rfl | rfl | rfl | rfl | rfl | rfl:j=0\/j=1\/j=2\/j=3\/j=4\/j=5\/j=6\/j=7\/j=8\/j=9\/j=10\/j=11\/j=13\/j=14\/j=15\/j=16\/j=17\/j=18\/j=19\/j=20\/j=21\/j=22\/j=23\/j=24\/j=25\/j=26\/j=27\/j=28\/j=29\/j=30:=by omega
      all_goals rfl
    ·rw[hlen] at b5;rw[q5e L n mn k i g HGG.out,qnG,Nat.one_mul];exact b5
   ·rintro a u ⟨z',x8,rfl,k8,e8,a6,⟨l8,l7,l6⟩,f1,f2,f3⟩;obtain⟨v0,v1,v2,v3,v4,v5,v6,v7,v8,v9,t9,t8,t7,t6,t5,t4,t3,t2,t1,s9,s8,s7,s6,s5,s4,s3,s2,s1,r9,r8,r7,r6,r5,r4,r3,q7,q6,q5,q0,p9,p8,p7,p6,p5,p4,p3,n9,n8,n7,n6,n4,n3,n2,m9,m8,m7,m6,m5,rfl⟩:=q78 z' k8;simp at e8 l8 l7 l6;subst e8 l8 l7 l6;have k0:=(a6 0 (by omega) (by simp[j8])).resolve_right (by omega);have k1:=(a6 1 (by omega) (by simp[j8])).resolve_right (by omega);have k2:=(a6 2 (by omega) (by simp[j8])).resolve_right (by omega);have k3:=(a6 3 (by omega) (by simp[j8])).resolve_right (by omega);have k4:=(a6 4 (by omega) (by simp[j8])).resolve_right (by omega);have k5:=(a6 5 (by omega) (by simp[j8])).resolve_right (by omega);have k6:=(a6 6 (by omega) (by simp[j8])).resolve_right (by omega);have k7:=(a6 7 (by omega) (by simp[j8])).resolve_right (by omega);have k9:=(a6 9 (by omega) (by simp[j8])).resolve_right (by omega);have g9:=(a6 10 (by omega) (by simp[j8])).resolve_right (by omega);have g8:=(a6 11 (by omega) (by simp[j8])).resolve_right (by omega);have g7:=(a6 13 (by omega) (by simp[j8])).resolve_right (by omega);have g6:=(a6 14 (by omega) (by simp[j8])).resolve_right (by omega);have g5:=(a6 15 (by omega) (by simp[j8])).resolve_right (by omega);have e9:=(a6 16 (by omega) (by simp[j8])).resolve_right (by omega);have e7:=(a6 17 (by omega) (by simp[j8])).resolve_right (by omega);have e6:=(a6 18 (by omega) (by simp[j8])).resolve_right (by omega);have e5:=(a6 19 (by omega) (by simp[j8])).resolve_right (by omega);have e4:=(a6 20 (by omega) (by simp[j8])).resolve_right (by omega);have d9:=(a6 21 (by omega) (by simp[j8])).resolve_right (by omega);have d8:=(a6 22 (by omega) (by simp[j8])).resolve_right (by omega);have d7:=(a6 23 (by omega) (by simp[j8])).resolve_right (by omega);have d6:=(a6 24 (by omega) (by simp[j8])).resolve_right (by omega);have d5:=(a6 25 (by omega) (by simp[j8])).resolve_right (by omega);have c9:=(a6 26 (by omega) (by simp[j8])).resolve_right (by omega);have c8:=(a6 27 (by omega) (by simp[j8])).resolve_right (by omega);have b9:=(a6 28 (by omega) (by simp[j8])).resolve_right (by omega);have b8:=(a6 29 (by omega) (by simp[j8])).resolve_right (by omega);have b7:=(a6 30 (by omega) (by simp[j8])).resolve_right (by omega);clear a6 k8;simp at k0 k1 k2 k3 k4 k5 k6 k7 k9 g9 g8 g7 g6 g5 e9 e7 e6 e5 e4 d9 d8 d7 d6 d5 c9 c8 b9 b8 b7;subst k0 k1 k2 k3 k4 k5 k6 k7 k9 g9 g8 g7 g6 g5 e9 e7 e6 e5 e4 d9 d8 d7 d6 d5 c9 c8 b9 b8 b7;have ⟨HF1,HF2,HF3⟩:=z8 f1 f2 f3;clear f1 f2 f3 p0 p1;have u0:IntKind.i64.wrap ((i:Int)+1)=i+1:=qhp _ (by omega);dsimp only;go_wp2;go_roundw
    case rel=>exact⟨i+1,by simp,by omega,HF1.out,HF2.out,HF3.out⟩
    case measure=>simp[qi9];omega
  ·obtain rfl:i=L.length:=by omega
   clear hG hO hN;go_wp2;refine HR.out _ (.slice oa om a8) wr rfl rfl (λj hj hc=>?_) HGi.out ?_ HNi.out
   ·obtain rfl | rfl | rfl | rfl | rfl | rfl | rfl | rfl | rfl | rfl | rfl | rfl | rfl | rfl | rfl | rfl | rfl | rfl | rfl | rfl | rfl | rfl | rfl | rfl | rfl | rfl | rfl | rfl | rfl | rfl:j=0\/j=1\/j=2\/j=3\/j=4\/j=5\/j=6\/j=7\/j=9\/j=10\/j=13\/j=14\/j=15\/j=16\/j=17\/j=18\/j=19\/j=20\/j=21\/j=22\/j=23\/j=24\/j=25\/j=26\/j=27\/j=28\/j=29\/j=55\/j=56\/j=57:=by omega
    all_goals rfl
   ·have h1:=HOi.out;rw[qis] at h1;exact h1
def kOf(p:Par):Nat:=(p.mx - p.mn+1).toNat
def kZ(ps:List Par)(L:List (Nat->Int))(x:Int):List (Nat->Int):=match ps[x.toNat]? with | some p=>kg L x.toNat p.mn (kOf p) | none=>L
def yS(ps:List Par)(wl:List Int):List (Nat->Int):=wl.foldl (kZ ps) [λ_=>0]
theorem q98(ps:List Par)(wl:List Int)(i:Nat)(x:Int)(p:Par)(h:wl[i]?=some x)(hp:ps[x.toNat]?=some p):yS ps (wl.take (i+1))=kg (yS ps (wl.take i)) x.toNat p.mn (kOf p):=by
 rw[qig,h];simp[yS,qqk,kZ,hp]
theorem q97(lo hi:Nat)(yv vv:qgB)(ps:List Par)(lim:Int)(wl:List Int)(w:qgx)(hY:j5 lo hi w yv ps lim)(hI:qf lo hi w vv wl)(hhi:hi<=w.heap.size)(h5:ps.length<=5)(hx:∀x∈wl,0<=x/\x<ps.length)(hp:∀p∈ps,0<=p.mn/\p.mn<=p.mx/\p.mx<=1000)(hN:∀j,j<=wl.length->(yS ps (wl.take j)).length<=900000) :qhw Ya 137 #[yv,vv] w λe w'=>∃v,e=.returned v/\w.grownBy w' none/\w'.ownsRow w.heap.size 101 5 v (yS ps wl).length (zZ (yS ps wl))/\∀b,v.ownBlock=some b->zj w' b:=by
 obtain⟨qv,rfl,hP⟩:=hY;obtain⟨yb,yc,rfl,t8,-⟩:=hP.cell;obtain⟨base,cap,rfl,u7,-⟩:=hI.cell;obtain⟨A,hA⟩:∃A,A=w.heap.size:=⟨_,rfl⟩;obtain⟨w1,a6⟩:∃w1,w1=(w.alloc (.cells #[.slice yb ps.length yc,lim] 91)).alloc (qG λ_=>0):=⟨_,rfl⟩;have b7:w.grownBy w1 none:=by rw[a6];exact(qgw _ _ none).trans (qgw _ _ none)
 have e5:w1.heap[A]?=some (.cells #[.slice yb ps.length yc,lim] 91 (0,0)):=by rw[a6,hA];exact qp (qgF w _)
 have u5:w1.heap.size=A+2:=by rw[a6,qh6,qh6,hA]
 have d5:w1.heap[A+1]?=some (qG λ_=>0):=by
  rw[a6];have:=qgF (w.alloc (.cells #[.slice yb ps.length yc,lim] 91)) (qG λ_=>0);rw[qh6,<- hA] at this;exact this
 have d8:w1.ownsRow A 101 5 (.slice (some (A+1:Nat)) 1 1) 1 (zZ [λ_=>0]):=⟨by simp[zZ,ZG],.inr ⟨A+1,1,_,rfl,by omega,d5,by omega,by unfold qkq;omega,by simp,by simp[zZ,ZG]⟩⟩;have d9:zj w1 (A+1):=ZR d5 (by intro v hv;simp at hv;exact⟨_,_,hv⟩);have l5:=qgv (hI.kept b7);have k9:=qgv (hP.kept b7);have ⟨HX,HPB,HN,HW1,HA,HG1,HB1,HO1⟩:=qbe hx hp hN a6 hA b7 e5 d8;have l4:=qgv d9;have u8:hi<=A:=by omega
 clear hI hP hx hp hN a6 hA b7 e5 d5 d8 d9;go_enter Tp.x137,Tryz.ntmps137;go_upto_region 2 with(fail);rw[<- HA.out];rw[show(w.alloc (.cells #[.slice yb ps.length yc,lim] 91)).alloc (.cells #[.int .i64 0,.int .i64 0,.int .i64 0,.int .i64 0,.int .i64 0] 101)=w1 from HW1.out.symm];clear HW1;go_wp2;go_loopw [5,17] (λov iv wr=>∃j:Nat,iv=.int .i64 j/\j<=wl.length/\w1.grownBy wr none/\wr.ownsRow A 101 5 ov (yS ps (wl.take j)).length (zZ (yS ps (wl.take j)))/\(∀b,ov.ownBlock=some b->zj wr b)/\0<(yS ps (wl.take j)).length) (λ_ iv _=>(wl.length - qi9 iv).toNat)
 case atStart=>exact⟨0,rfl,by omega,qh1 _ _,by simpa[yS] using HO1.out,λb hb=>(by simp[qhB] at hb;subst hb;exact l4.out),by simp[yS]⟩
 case round=>
  obtain⟨j,rfl,hj,hG,hO,hN,a8⟩:=hrel;obtain⟨RA,rc,rfl,w9,l7⟩:=hO.form a8;have ⟨HGj,HOj,HNj⟩:=z8 hG hO hN;have hsz:=hG.size;by_cases hlt:j<wl.length
  ·have h9:=l5.out.kept hG;have h8:=k9.out.kept hG;obtain⟨b1,c1,he,-,hc⟩:=h9.cell;cases he;obtain⟨VB,vo,rfl,m3,l9,l8,b8⟩:=hc (by intro e;rw[e] at hlt;simp at hlt);have x0:=b8 j hlt;obtain⟨x,a9⟩:∃x,wl[j]?=some x:=⟨_,qgG hlt⟩;obtain⟨t9,b9⟩:=HX.out x (qhg a9);rw[a9] at x0;simp only[qgH] at x0;obtain⟨n,rfl⟩:∃n:Nat,x=n:=⟨x.toNat,by omega⟩;obtain⟨b2,c2,he,-,hc⟩:=h8.cell;cases he;obtain⟨YB,yo,rfl,w8,w6,u9,d7⟩:=hc (by intro e;rw[e] at b9;simp at b9;omega);obtain⟨p,c3,p0,p1,-,-⟩:=d7 n (by omega);have c9:=HPB.out p (qhg c3);have a0:=hG.cl (q8 HB1.out (o:=0) rfl);have l6:(j:Int)<(wl.length:Int):=by omega
   have u6:(n:Int)<(ps.length:Int):=b9;have ⟨HXE,HPP⟩:=qH a9 c3;clear hG hO hN hc b8 d7 a9 c3 h9 h8;go_upto_region 7 with(fail);obtain⟨L,b0⟩:∃L,L=yS ps (wl.take j):=⟨_,rfl⟩;obtain⟨OB,d6⟩:∃OB,OB=wr.heap.size:=⟨_,rfl⟩;obtain⟨w2,a7⟩:∃w2,w2=wr.alloc (.cells #[p.mn,p.mx] 26):=⟨_,rfl⟩;have k6:n<5:=by omega
   have k7:((kOf p:Nat):Int)=p.mx - p.mn+1:=by unfold kOf;omega
   have hcl:yS ps (wl.take (j+1))=kg L n p.mn (kOf p):=by rw[q98 ps wl j n p HXE.out (by simpa using HPP.out),<- b0];simp
   have k8:L.length*kOf p<=900000:=by have:=HN.out (j+1) hlt;rw[hcl,vD] at this;exact this
   have q1:w2.heap[OB]?=some (.cells #[p.mn,p.mx] 26 (0,0)):=by rw[a7,d6];exact qgF wr _
   have q2:wr.grownBy w2 none:=by rw[a7];exact qgw _ _ none
   have q3:w2.ownsRow A 101 5 (.slice (some RA) L.length rc) L.length (zZ L):=by rw[a7,b0];exact HOj.out.alloc _
   have k5:A<=w2.heap.size:=by have:=q2.size;omega
   rw[<- b0] at a8 ⊢;rw[<- d6];rw[show wr.alloc (.cells #[p.mn,p.mx] 26)=w2 from a7.symm];have ⟨HQ1,HQ2,HQ3,HCL⟩:=zY q1 q2 q3 hcl;clear q1 q2 q3 hcl a7 d6 b0 x0 p0 p1 a0;go_wp2;refine qni (jY (R:=λa u=>∃(z':Array qgB) (x8:qgB),a=⟨z',[]⟩/\z'.size=58/\z'[8]?=some x8/\(z'[0]?=some (.agg #[.slice (some ⟨YB,yo,none⟩) ps.length yc,lim])/\z'[1]?=some (.slice (some ⟨VB,vo,none⟩) wl.length cap)/\z'[2]?=some (.pointer (some A))/\z'[3]?=some (qgD)/\z'[4]?=some (.slice none 0 0)/\z'[6]?=some (qgD)/\z'[10]?=some (qgD)/\z'[13]?=some (.agg #[.int .i64 0,.int .i64 0,.int .i64 0,.int .i64 0,.int .i64 0])/\z'[14]?=some (.slice (some (A+1:Nat)) 1 1)/\z'[15]?=some (.slice (some ⟨VB,vo,none⟩) wl.length cap)/\z'[16]?=some (.int .i64 wl.length)/\z'[17]?=some (.int .i64 j)/\z'[57]?=some (qgD))/\w1.grownBy u none/\u.ownsRow A 101 5 x8 (yS ps (wl.take (j+1))).length (zZ (yS ps (wl.take (j+1))))/\∀b,x8.ownBlock=some b->zj u b) ?_) ?_;rotate_left
   ·refine xy (c':=inn cL2) (by simp only[cL2,cB1,cB0,qpq,qgH,sqA,sqB,inn]) ?_;refine qeG _ rfl w2 _ n OB RA rc A (kOf p) p.mn p.mx L rfl k6 rfl rfl HQ1.out rfl rfl rfl HQ3.out ⟨c9.1,c9.2.1,c9.2.2⟩ k7 k8 ?_;intro z' x8 w' b1 b2 b3 b4 b5 b6;refine⟨z',x8,rfl,b1,b2,⟨(b3 0 (by omega) (by omega)).trans rfl,(b3 1 (by omega) (by omega)).trans rfl,(b3 2 (by omega) (by omega)).trans rfl,(b3 3 (by omega) (by omega)).trans rfl,(b3 4 (by omega) (by omega)).trans rfl,(b3 6 (by omega) (by omega)).trans rfl,(b3 10 (by omega) (by omega)).trans rfl,(b3 13 (by omega) (by omega)).trans rfl,(b3 14 (by omega) (by omega)).trans rfl,(b3 15 (by omega) (by omega)).trans rfl,(b3 16 (by omega) (by omega)).trans rfl,(b3 17 (by omega) (by omega)).trans rfl,(b3 57 (by omega) (by omega)).trans rfl⟩,(HGj.out.trans HQ2.out).trans b4,?_,b6⟩;rw[HCL.out,vD];exact q3z b5 k5
   ·rintro a u ⟨z',x8,rfl,k0,e8,⟨e0,e1,e2,e3,e4,e6,g9,g8,g7,g6,g5,e9,e7⟩,f1,f2,f3⟩;have c8:0<(yS ps (wl.take (j+1))).length:=by
     rw[HCL.out,vD];exact Nat.mul_pos a8 (by omega)
    obtain⟨v0,v1,v2,v3,v4,v5,v6,v7,v8,v9,t7,t6,t5,t4,t3,t2,t1,s9,s8,s7,s6,s5,s4,s3,s2,s1,r9,r8,r7,r6,r5,r4,r3,q7,q6,q5,q4,q0,p9,p8,p7,p6,p5,p4,p3,n9,n8,n7,n6,n4,n3,n2,m9,m8,m7,m6,m5,m4,rfl⟩:=q78 z' k0;simp at e8 e0 e1 e2 e3 e4 e6 g9 g8 g7 g6 g5 e9 e7;subst e8 e0 e1 e2 e3 e4 e6 g9 g8 g7 g6 g5 e9 e7;have ⟨HF1,HF2,HF3⟩:=z8 f1 f2 f3;clear f1 f2 f3;have u0:IntKind.i64.wrap ((j:Int)+1)=j+1:=qhp _ (by omega);dsimp only;go_wp2;go_roundw
    case rel=>exact⟨j+1,by simp,by omega,HF1.out,HF2.out,HF3.out,c8⟩
    case measure=>simp[qi9];omega
  ·obtain rfl:j=wl.length:=by omega
   clear hG hO hN;go_wp2;go_ret;refine⟨_,rfl,HG1.out.trans HGj.out,?_,HNj.out⟩;have h1:=HOj.out;rw[<- HA.out];simpa[qis] using h1
end
section
open Go Go.RowKit Go.Co
theorem Tp.info3p:(Ya.info? 3).map (λi=>(i.zero,i.size,i.bytes))=some (some (.int .i64 0),1,8):=by kernel_rfl
theorem Tp.und29':Ya.underlying 29=some (.slice 3):=by rw[Tp.und];exact qlq
theorem Kf{w:qgx}{base n hi:Nat}{v:qgB}{l:List Int}(h:w.ownsRow base 3 1 v n (l.map (qhj .i64)))(hl:l.length<=1000000)(hhi:w.heap.size<=hi):qf base hi w v l:=by
 have hn:n=l.length:=by have:=h.1;simpa using this.symm
 subst hn;rcases h.2 with⟨rfl,h0⟩ | ⟨g,cap,cur,rfl,hb,hg,_,_,hcs,ht⟩
 ·have:l=[]:=qim h0;subst this;exact .nil _ _ _
 ·have hlt:=(qgy.1 hg).1;refine⟨_,cap,rfl,by omega,λ_=>⟨g,0,cur,_,rfl,hb,by omega,hg,λi hi=>?_⟩⟩;have h1:(l.map (qhj .i64))[i]?=some (.int .i64 (l[i]?.getD 0)):=by simp[qgG hi]
  rw[<- ht,qm0] at h1;split at h1
  ·rw[qhf];simpa using h1
  ·cases h1
theorem yg{w:qgx}{B o j:Nat}{u:qgB}(h:w.cell? ⟨B,o+j,none⟩=some u):w.cell? ((⟨B,o,none⟩:qi5).add j)=some u:=by
 have e:(⟨B,o,none⟩:qi5).add j=⟨B,o+j,none⟩:=by unfold Addr.add;split<;>simp_all
 rw[e];exact h
theorem q6e(w:qgx):(binOp .eql 29 (.slice none 0 0) (.slice none 0 0)).run Ya w=.ok (.bool true) w:=by kernel_rfl
theorem q2n(w:qgx)(B o n c:Nat):(binOp .eql 29 (.slice (some ⟨B,o,none⟩) n c) (.slice none 0 0)).run Ya w=.ok (.bool false) w:=by kernel_rfl
attribute [local simp] q6e q2n
attribute [local go_sem] q6e q2n
theorem Jr(lo hi:Nat)(v:qgB)(l:List Int)(w:qgx)(hI:qf lo hi w v l)(hhi:hi<=w.heap.size)(hne:l≠[]\/v=.slice none 0 0)(hl:l.length<=1000) :qhw Ya 84 #[v] w λe w'=>∃v',e=.returned v'/\w.grownBy w' none/\qf w.heap.size w'.heap.size w' v' l:=by
 obtain⟨i0,b8,b6,b0,a9⟩:=qjj Tp.info3p;by_cases h0:l=[]
 ·subst h0;have hv:v=.slice none 0 0:=hne.resolve_left (λh=>h rfl);subst hv;go_enter Tp.x84,qp4;go_wp2;go_ret;exact⟨_,rfl,qh1 _ _,.nil _ _ _⟩
 ·obtain⟨base,cap,rfl,c3,hc⟩:=hI;obtain⟨B,o,cs,fr,rfl,h1,h2,h3,h4⟩:=hc h0;have a8:0<l.length:=ql4.2 h0;have HN:=qgv (show ∀j u,(l.map (qhj .i64))[j]?=some u->cs[o+j]?=some u from λj u hu=>by
   rw[qj7] at hu;cases hj:l[j]? with
   | none=>rw[hj] at hu;cases hu
   | some x=>
    rw[hj] at hu;cases hu;have b7:=(qh9.1 hj).1;have:=h4 j b7;rw[hj] at this;exact this)
  have HB:=qgv h3;clear hc h4 h3;go_enter Tp.x84,qp4;go_wp2_with (at_builtin;(refine qoh _ (by rfl) _ _ _ (by rfl) w.heap.size 3 i0 _ 1 8 Tp.und29' b8 b6 b0 a9 rfl (by omega) (.slice (some w.heap.size) 0 0) 0 [] (by rfl) ⟨by simp,.inr ⟨w.heap.size,0,#[],rfl,by omega,qgF w _,by omega,by unfold qkq;omega,by simp,by simp⟩⟩ ⟨B,o,none⟩ l.length cap (l.map (qhj .i64)) (by rfl) (by simp) (λj u hu=>yg (q8 (qp HB.out) (HN.out j u hu))) (by intro u hu;simp at hu;obtain⟨x,_,rfl⟩:=hu;rfl) a8 (by unfold qkq;omega) (by omega) (by simp) (w.heap.size+1) (by simp) ?_);intro gg b9 w5 a6 a7 c8 hgl;have HG:=qgv a7;have HO:=qgv a6;clear a7 a6);go_ret;refine⟨_,rfl,(qgw _ _ none).andThen HG.out (λj e=>.inl ?_),Kf (n:=0+l.length) (by simpa using HO.out) (by omega) (qgA _)⟩;simp[qhB] at e;omega
end
section
open Go.RowKit Go.Co
theorem YS{w w':qgx}{base size n:Nat}{e:qh8}{v:qgB}{xs:List qgB}(h:w.ownsRow base e size v n xs)(hg:w.grownBy w' none):w'.ownsRow base e size v n xs:=h.kept hg (qqg (v.ownBlock=none))
theorem q6F{w:qgx}{base size n k c:Nat}{e:qh8}{b:Option qi5}{xs:List qgB}(h:w.ownsRow base e size (.slice b k c) n xs):k<=c:=by
 rcases h.2 with⟨h,-⟩ | ⟨g,cap,cur,h,-,-,h1,-⟩
 ·cases h;exact qgA _
 ·cases h;exact h1
theorem Z7(ps:List Par)(l:List Int)(x:Int):qK ps (l++[x])=qK ps l+jr ps x:=by simp[qK]
structure HpI(b g Q B0 n i:Nat)(ps:List Par)(lim:Int)(pv:qgB)(ord l:List Int)(ov:qgB)(w0 w wr:qgx):Prop where
 sub:l.Sublist (ord.take i)
 tall:qK ps l<=lim
 t0:0<=qK ps l
 own:wr.ownsRow B0 3 1 ov l.length (l.map (qhj .i64))
 tin:qO wr b (g+i)
 gr:w.grownBy wr (some b)
 gr0:w0.grownBy wr (some b)
 ints:∀j,ov.ownBlock=some j->zj wr j
theorem qay{ps:List Par}{lim:Int}{ord l:List Int}{i:Nat}(ho:q9e ps.length ord)(h5:ps.length<=5)(hs:l.Sublist (ord.take i))(ht:qK ps l<=lim):POk ps lim l:=by
 have a6:l.Sublist ord:=hs.trans (qql _ _);exact⟨λx hx=>ho.all x (a6.subset hx),ho.nd.sublist a6,ht,by have:=a6.length_le;have:=ho.len;omega⟩
theorem q7x{ps:List Par}{m:Nat}{p:Par}(h:ps[m]?=some p):jr ps (m:Int)=p.tall:=by simp[jr,h]
theorem qa0{ord l:List Int}{i:Nat}(h:l.Sublist (ord.take i)):l.Sublist (ord.take (i+1)):=h.trans (by rw[qig];exact List.sublist_append_left _ _)
theorem q9H{ord l:List Int}{i:Nat}{x:Int}(h:l.Sublist (ord.take i))(hx:ord[i]?=some x):(l++[x]).Sublist (ord.take (i+1)):=by
 rw[qig,hx];exact h.append (List.Sublist.refl _)
theorem q63(b g:Nat)(lo:Nat)(pv:qgB)(ps:List Par)(lim:Int)(w:qgx)(ht:qO w b g)(hg:g<90000)(hP:qn lo w.heap.size w pv ps)(hlo:b<lo)(h5:ps.length<=5)(h8:0<=lim)(hl2:lim<=1000)(e4:∀p∈ps,0<=p.tall/\p.tall<=100) :qhw Ya 34 #[.pointer (some ⟨b,0,none⟩),.agg #[pv,lim]] w λe w'=>∃l v,POk ps lim l/\e=.returned v/\Tn b (g+11) w w'/\qf w.heap.size w'.heap.size w' v l/\(∀b n c,v=.slice b n c->n<=c)/\∀ad m c,v=.slice (some ad) m c->zj w' ad.block:=by
 obtain⟨i0,h9,g8,g6,e9⟩:=qjj Tp.info3p;obtain⟨yb,yc,rfl,l8,-⟩:=hP.cell;obtain⟨Q,hQ⟩:∃Q,Q=w.heap.size:=⟨_,rfl⟩;have m8:b<Q:=by rw[hQ];exact ht.lt
 have ⟨HT,HQ,HP,HTA⟩:=zY ht hQ hP e4;clear ht hQ hP e4;go_enter Tp.x34,Tryz.ntmps34;go_upto_region 1 with(fail);rw[<- HQ.out];refine Y1 (λu=>w.grownBy u (some b)/\qO u b g/\u.heap[Q]?=some (.cells #[.slice yb ps.length yc,lim] 24 (0,0))) ⟨qgw _ _ _,HT.out.alloc _,by rw[HQ.out];exact qgF _ _⟩ (λw1 hF=>?_);obtain⟨g1,t1,q1⟩:=hF;have c0:=q8 q1 (o:=0) rfl;have c1:=q8 q1 (o:=1) rfl;have ⟨G1,T1,Q1⟩:=z8 g1 t1 q1;clear g1 t1 q1;go_wp2_with (go_at_call 72;refine(q8i b g ps.length _ T1.out (by omega) (by omega)).mono ?_;rintro e w2 ⟨ord,ov,b8,rfl,e6,d5⟩;have N2:=qgv e6;have I2:=qgv d5;have b0:=qgv b8;obtain⟨ob,oc,eo,-,-⟩:=d5.cell;rw[b8.len] at eo;subst eo;clear e6 d5 b8);have q2:=blk N2.out.1 (by simp;omega) Q1.out;have Q2:=qgv q2;have G2:=qgv (G1.out.trans N2.out.1);have T2:=qgv N2.out.2;have k7:w.heap.size<=w1.heap.size:=G1.out.size;have k9:=Jl Q1.out;have k5:=qgv (I2.out.mono (show Q+1<=w1.heap.size by omega) (qgA _));have P2:=qgv (HP.out.kept G2.out (λR e=>by cases e;exact .inl hlo));clear q2 c0 c1 Q1 G1 T1 N2 I2;go_loopw [5,6,8] (λov tv iv wr=>∃(i:Nat) (l:List Int),iv=.int .i64 i/\tv=.int .i64 (qK ps l)/\i<=ps.length/\HpI b (g+ps.length) Q w2.heap.size ps.length i ps lim (.slice yb ps.length yc) ord l ov w2 w wr) (λ_ _ iv _=>(ps.length - qi9 iv).toNat)
 case atStart=>exact⟨0,[],rfl,rfl,by omega,⟨by simp,by simpa[qK] using h8,by simp[qK],qjh _ _ _ _,T2.out,G2.out,qh1 _ _,λj e=>by cases e⟩⟩
 case round=>
  obtain⟨i,l,rfl,rfl,hi,hI⟩:=hrel;obtain⟨oa,om,a6,rfl⟩:=zt hI.own;have HI:=qgv hI;have c9:=hI.tall;have ht0:=hI.t0;have m7:l.length<=5:=by have:=hI.sub.length_le;rw[qjz] at this;omega
  clear hI;by_cases hlt:i<ps.length
  ·have k8:(i:Int)<(ps.length:Int):=by omega
   have m4:IntKind.i64.wrap ((i:Int)+1)=(i:Int)+1:=qhp _ (by omega);obtain⟨x,hx⟩:∃x,ord[i]?=some x:=⟨_,qgG (by rw[b0.out.len];exact hlt)⟩;have d8:=b0.out.all x (qhg hx);obtain⟨m,rfl⟩:=Int.eq_ofNat_of_zero_le d8.1;have hm:m<ps.length:=by omega
   have m6:(m:Int)<(ps.length:Int):=by omega
   have HX:=qgv hx;clear hx d8;go_wp2_with (fail);refine(q35 b (g+ps.length+i) 5 _ HI.out.tin (by omega) (by omega) (by omega)).mono ?_;rintro e w5 ⟨⟨tr,rfl⟩,b9,-⟩;have g5:w2.grownBy w5 (some b):=HI.out.gr0.trans b9.1;have ⟨N5,G5⟩:=qH b9 g5;have I5:=qgv (λ(j:Nat) (e:(qi1 oa om a6).ownBlock=some j)=>(HI.out.ints j e).kept b9.1 (λe2=>by have h1:=(HI.out.own.lt j e).1;have h2:=T2.out.lt;cases e2;omega));have O5:=qgv (HI.out.own.kept b9.1 (by
    by_cases e:(qi1 oa om a6).ownBlock=some b
    ·have h1:=(HI.out.own.lt b e).1;have h2:=T2.out.lt;omega
    ·exact .inr e))
   clear b9 g5;cases tr with
   | true=>
    go_wp2;go_ret;exact⟨l,_,qay b0.out h5 HI.out.sub c9,rfl,⟨HI.out.gr.trans N5.out.1,N5.out.2.mono (by omega)⟩,(qf.own O5.out (by have:=HI.out.sub.length_le;rw[qjz] at this;omega)).mono (by have:=G2.out.size;omega) (qgA _),λ_ _ _ e=>(by cases(show qi1 oa om a6=_ from e);exact q6F O5.out),λad m2 c2 e=>by cases(show qi1 oa om a6=_ from e);exact(HI.out.ints _ rfl).kept N5.out.1 (λe2=>by have h1:=(HI.out.own.lt _ rfl).1;have h2:=T2.out.lt;cases e2;omega)⟩
   | false=>
    have e7:=k5.out.kept G5.out (λR e=>by cases e;exact .inl (by omega));obtain⟨l7,l6,eo,-,e5⟩:=e7.cell;injection eo with eo1 eo2 eo3;subst eo1 eo3;clear eo2;obtain⟨OB,oo,rfl,-,-,n7,hcell⟩:=e5 (by intro e;have:=b0.out.len;rw[e] at this;simp at this;omega);have x1:=hcell i (by rw[b0.out.len];exact hlt);rw[HX.out] at x1;simp only[qgH] at x1;have q5:=blk G5.out (by simp;omega) Q2.out;have p5:=P2.out.kept G5.out (λR e=>by cases e;exact .inl hlo);obtain⟨l5,l4,ey,-,d7⟩:=p5.cell;cases ey;obtain⟨YB,yo,rfl,-,n2,n3,a9⟩:=d7 (by intro e;rw[e] at hm;simp at hm);obtain⟨p,hp,p0,p1,p2,p3⟩:=a9 m hm;have m5:=HTA.out p (qhg hp);have d9:=q7x hp;have d0:=q8 q5 (o:=0) rfl;have d1:=q8 q5 (o:=1) rfl;have ⟨HTO,Q5⟩:=qH d9 q5;have g9:IntKind.i64.wrap (qK ps l+p.tall)=qK ps l+p.tall:=qhp _ (by omega);clear e7 hcell e5 p5 d7 a9 q5 hp d9 p0 p1 p2;obtain⟨tl,b6⟩:∃tl,tl=qK ps l:=⟨_,rfl⟩;rw[<- b6] at c9 g9 ht0 ⊢;have HTL:=qgv b6;clear b6;by_cases e8:tl+p.tall<=lim
    ·go_wp2_with (fail);go_quiet (fail);go_wp2_with (fail);have a7:w5.grownBy (w5.drewN nq) none:=qi _ _ _;generalize w5.drewN nq=w7 at a7 ⊢;have g7:=G5.out.andThen a7 (by simp);have e0:=q8 (bk a7 Q5.out) (o:=0) rfl;have e1:=a7.cl p3;have q7:=bk a7 Q5.out;have Q7:=qgv q7;have n6:Q<w7.heap.size:=Jl q7;have n4:YB<w7.heap.size:=by have:=a7.size;omega
     have I7:=qgv (λ(j:Nat) (e:(qi1 oa om a6).ownBlock=some j)=>(I5.out j e).kept a7);have O7:=qgv (YS O5.out a7);have T7:=qgv (N5.out.2.kept a7);have G7:=qgv g7;have GW:=qgv ((HI.out.gr.trans N5.out.1).andThen a7 (by simp));clear a7 g7 d0 d1 x1 p3 Q5;have I8:=qgv (λ(j:Nat) (e:(qi1 oa om a6).ownBlock=some j)=>(I7.out j e).kept (qgw w7 (.cells #[.int .i64 m] 3) none));have N8:=qgv (show zi [qhj .i64 m] from λv hv=>⟨_,_,qjC.1 hv⟩);have Z8:=qgv (show zi (qhj .i64 0).cells.toList from λv hv=>by simp[qnE] at hv;exact⟨_,_,hv⟩);have k0:some Q≠(qi1 oa om a6).ownBlock:=λe=>by have:=(O7.out.lt Q e.symm).1;have:=Jl Q2.out;omega
     go_region_law
      (first
       | (refine vC (by rfl) _ _ _ (by rfl) w2.heap.size 3 i0 _ 1 8 Tp.und29' h9 g8 g6 e9 rfl (by omega) (.slice oa om a6) l.length (l.map (qhj .i64)) (by rfl) (by exact O7.out.alloc _) ⟨w7.heap.size,0,none⟩ 1 1 [.int .i64 m] (by rfl) (by rfl) (qiw (cs:=#[.int .i64 m]) (t:=3) (fr:=(0,0)) (qgF w7 _)) (by simp[qjk]) (by omega) (by unfold qkq;omega) (by omega) (by simp;have:=G7.out.size;omega) (w7.heap.size+1) (by simp) I8.out N8.out Z8.out ?_;intro gg cap w8 b7 a8 m9 hgl c8;have k6:=qgv c8;clear c8;have B8:=blk a8 k0 (qp Q7.out);have p4:=q8 B8 (o:=0) rfl;have n9:=a8.cell ((qgw w7 (.cells #[.int .i64 m] 3) none).cl e1) (λe=>by have h1:w2.heap.size<=YB:=(O7.out.lt _ e.symm).1;have:=G2.out.size;omega);have m3:Q<w8.heap.size:=Jl B8;have l9:YB<w8.heap.size:=(by have:=a8.size;simp at this;omega);have HG:=qgv a8;have HO:=qgv b7;clear B8 b7))
     all_goals
      have c3:∀j,(qi1 oa om a6).ownBlock=some j->w2.heap.size<=j:=λj e=>(O7.out.lt j e).1;have n8:=G2.out.size;have HH:(w7.alloc (.cells #[.int .i64 m] 3)).grownBy w8 (qi1 oa om a6).ownBlock:=⟨HG.out.os,HG.out.tape,HG.out.output,HG.out.size,HG.out.block⟩;have d6:=qgw w7 (.cells #[.int .i64 m] 3) none;have hFin:HpI b (g+ps.length) Q w2.heap.size ps.length (i+1) ps lim (.slice (some ⟨YB,yo,none⟩) ps.length yc) ord (l++[(m:Int)]) (.slice (some gg) (l.length+1) cap) w2 w w8 :=
       ⟨q9H HI.out.sub HX.out,by rw[Z7,HTO.out,<- HTL.out];exact e8,by rw[Z7,HTO.out,<- HTL.out];omega,by rw[qio,qji];exact HO.out,(T7.out.alloc _).kept HH (λj e=>by have:=c3 j e;have:=T2.out.lt;omega),q66 (GW.out.andThen d6 (by simp)) HH (λj e=>by have:=c3 j e;omega),q66 (G7.out.andThen d6 (by simp)) HH (λj e=>c3 j e),λj e=>by simp[qhB] at e;subst e;exact k6.out⟩
      have FF:=qgv hFin;have FT:=qgv (show tl+p.tall=qK ps (l++[(m:Int)]) by rw[Z7,HTO.out,<- HTL.out]);clear hFin c3 d6;go_wp2;go_roundw
      case rel=>exact⟨i+1,l++[(m:Int)],by simp,by rw[FT.out],by omega,FF.out⟩
      case measure=>simp[qi9];omega
    ·go_wp2_with (fail);go_quiet (fail);go_wp2_with (fail);go_roundw
     case rel=>
      exact⟨i+1,l,by simp,by rw[HTL.out],by omega,qa0 HI.out.sub,HI.out.tall,HI.out.t0,YS O5.out (qi _ _ none),N5.out.2.kept (qi _ _ none),(HI.out.gr.trans N5.out.1).trans (qi _ _ _),G5.out.trans (qi _ _ _),λj e=>(I5.out j e).kept (qi _ _ none)⟩
     case measure=>simp[qi9];omega
  ·obtain rfl:i=ps.length:=by omega
   go_wp2;go_ret;exact⟨l,_,qay b0.out h5 HI.out.sub c9,rfl,⟨HI.out.gr,HI.out.tin.mono (by omega)⟩,(qf.own HI.out.own (by have:=HI.out.sub.length_le;rw[qjz] at this;omega)).mono (by have:=G2.out.size;omega) (qgA _),λ_ _ _ e=>(by cases(show qi1 oa om a6=_ from e);exact q6F HI.out.own),λad m2 c2 e=>by cases(show qi1 oa om a6=_ from e);exact HI.out.ints _ rfl⟩
theorem q64(b g:Nat)(lo:Nat)(pv:qgB)(ps:List Par)(lim:Int)(w:qgx)(ht:qO w b g)(hg:g<90000)(hP:qn lo w.heap.size w pv ps)(hlo:b<lo)(h5:ps.length<=5)(a7:0<=lim)(hl2:lim<=1000)(a6:∀p∈ps,0<=p.tall/\p.tall<=100) :qhw Ya 34 #[.pointer (some ⟨b,0,none⟩),.agg #[pv,lim]] w λe w'=>∃l v,POk ps lim l/\e=.returned v/\Tn b (g+11) w w'/\qf w.heap.size w'.heap.size w' v l/\∀b n c,v=.slice b n c->n<=c :=
 (q63 b g lo pv ps lim w ht hg hP hlo h5 a7 hl2 a6).mono λ_ _ ⟨l,v,h1,h2,h3,h4,h5,_⟩=>⟨l,v,h1,h2,h3,h4,h5⟩
end
section
open Go.RowKit
def q6i(x y:Int):Int:=if x<y then -1 else if y<x then 1 else 0
def Qm:List Int->List Int->Int
 | [],[]=>0
 | [],_::_=>-1
 | _::_,[]=>1
 | x::a,y::b=>if q6i x y≠0 then q6i x y else Qm a b
theorem qdt(x y:Int)(w:qgx):qhw Ya 157 #[x,y] w λe w'=>e=.returned (.int .i64 (q6i x y))/\w=w':=by
 unfold q6i;by_cases h1:x<y
 ·rw[if_pos h1];go_enter Tp.x157,qq0;go_wp2_with (go_at_call 198;refine(Qz _ _).mono ?_;rintro e w2 ⟨rfl,rfl⟩);go_ret;exact⟨rfl,rfl⟩
 ·rw[if_neg h1];by_cases h2:y<x
  ·rw[if_pos h2];go_enter Tp.x157,qq0;go_wp2_with (go_at_call 198;refine(Qz _ _).mono ?_;rintro e w2 ⟨rfl,rfl⟩);go_ret;exact⟨rfl,rfl⟩
  ·rw[if_neg h2];go_enter Tp.x157,qq0;go_wp2_with (go_at_call 198;refine(Qz _ _).mono ?_;rintro e w2 ⟨rfl,rfl⟩);go_ret;exact⟨rfl,rfl⟩
theorem q96(a b:List Int)(k:Nat)(x y:Int)(hx:a[k]?=some x)(hy:b[k]?=some y):Qm (a.drop k) (b.drop k)=if q6i x y≠0 then q6i x y else Qm (a.drop (k+1)) (b.drop (k+1)):=by
 obtain⟨h1,e1⟩:=qh9.1 hx;obtain⟨h2,e2⟩:=qh9.1 hy;rw[qjB h1,qjB h2,e1,e2];rfl
theorem JO(la ha lb hb:Nat)(va vb:qgB)(a b:List Int)(w:qgx)(hA:qf la ha w va a)(hB:qf lb hb w vb b) :qhw Ya 122 #[va,vb] w λe w'=>e=.returned (.int .i64 (Qm a b))/\w=w':=by
 obtain⟨ba,ca,rfl,b9,h1⟩:=hA.cell;obtain⟨bb,cb,rfl,hl2,h2⟩:=hB.cell;have ⟨H1,H2⟩:=qH h1 h2;clear h1 h2 hA hB;go_enter Tp.x122,Tryz.ntmps122;go_wp2;go_loopw [11] (λiv wr=>∃k:Nat,iv=.int .i64 k/\k<=a.length/\k<=b.length/\Qm a b=Qm (a.drop k) (b.drop k)/\w=wr) (λiv _=>(a.length - qi9 iv).toNat)
 case atStart=>exact⟨0,rfl,by omega,by omega,rfl,rfl⟩
 case round=>
  obtain⟨k,rfl,hk,c3,hc,rfl⟩:=hrel;have HC:=qgv hc;clear hc;by_cases hlt:k<a.length
  ·obtain⟨x,e1⟩:∃x,a[k]?=some x:=⟨_,qgG hlt⟩;obtain⟨A1,o1,rfl,e4,d9,d8,a8⟩:=H1.out (by intro e;rw[e] at hlt;simp at hlt);have x1:=a8 k hlt;rw[e1] at x1;simp only[qgH] at x1;have c9:(k:Int)<(a.length:Int):=by omega
   have E1:=qgv e1;clear a8 e1;by_cases a6:k<b.length
   ·obtain⟨y,e2⟩:∃y,b[k]?=some y:=⟨_,qgG a6⟩;obtain⟨B1,o2,rfl,d7,d6,d5,a7⟩:=H2.out (by intro e;rw[e] at a6;simp at a6);have y1:=a7 k a6;rw[e2] at y1;simp only[qgH] at y1;have c8:(k:Int)<(b.length:Int):=by omega
    have hst:=q96 a b k x y E1.out e2;have HST:=qgv hst;have hcc:=qdt x y w;clear a7 e2 hst;generalize q6i x y=z at hcc HST;have a9:=qgv hcc;clear hcc;by_cases hz:z=0
    ·subst hz;go_wp2_with (go_at_call 157;refine(a9.out).mono ?_;rintro e w2 ⟨rfl,rfl⟩);go_roundw
     case rel=>exact⟨k+1,by simp,by omega,by omega,by rw[HC.out,HST.out];simp,by first | trivial | rfl⟩
     case measure=>simp[qi9];omega
    ·have b7:(z != 0)=true:=by simpa using hz
     have HZ:=qgv hz;clear hz;go_wp2_with (go_at_call 157;refine(a9.out).mono ?_;rintro e w2 ⟨rfl,rfl⟩);go_ret;exact⟨by rw[HC.out,HST.out,if_pos HZ.out];rfl,rfl⟩
   ·have b8:(b.length:Int)<=(k:Int):=by omega
    have hv:Qm a b=1:=by
     rw[HC.out,qke (show b.length<=k by omega),qjB hlt];rfl
    have HV:=qgv hv;clear hv;go_wp2;go_ret;exact⟨by rw[HV.out];rfl,rfl⟩
  ·obtain rfl:k=a.length:=by omega
   by_cases b6:a.length<b.length
   ·have b0:(a.length:Int)<(b.length:Int):=by omega
    have hv:Qm a b=-1:=by
     rw[HC.out,qke (qgA _),qjB b6];rfl
    have HV:=qgv hv;clear hv;go_wp2;go_ret;exact⟨by rw[HV.out];rfl,rfl⟩
   ·have b0:¬ (a.length:Int)<(b.length:Int):=by omega
    have hv:Qm a b=0:=by
     rw[HC.out,qke (qgA _),qke (show b.length<=a.length by omega)];rfl
    have HV:=qgv hv;clear hv;go_wp2;go_ret;exact⟨by rw[HV.out];rfl,rfl⟩
theorem JM(la ha lb hb:Nat)(va vb:qgB)(a b:List Int)(w:qgx)(hA:qf la ha w va a)(hB:qf lb hb w vb b) :qhw Ya 99 #[va,vb] w λe w'=>e=.returned (.bool (decide (Qm a b<0)))/\w=w':=by
 have hc:=JO la ha lb hb va vb a b w hA hB;obtain⟨ba,ca,rfl,a6,h1⟩:=hA.cell;obtain⟨bb,cb,rfl,hl2,h2⟩:=hB.cell;clear h1 h2 hA hB;generalize Qm a b=z at hc ⊢;have HC:=qgv hc;clear hc;go_enter Tp.x99,Tryz.ntmps99;go_wp2_with (go_at_call 122;refine(HC.out).mono ?_;rintro e w2 ⟨rfl,rfl⟩);go_ret;exact⟨rfl,rfl⟩
def ZO(a b:List Int):Bool:=decide (b.length<a.length) || (decide (a.length=b.length) && decide (Qm a b<0))
theorem q1g(la ha lb hb:Nat)(va vb:qgB)(a b:List Int)(w:qgx)(hA:qf la ha w va a)(hB:qf lb hb w vb b) :qhw Ya 98 #[va,vb] w λe w'=>e=.returned (.bool (ZO a b))/\w=w':=by
 have hc:=JM la ha lb hb va vb a b w hA hB;obtain⟨ba,ca,rfl,a9,h1⟩:=hA.cell;obtain⟨bb,cb,rfl,hl2,h2⟩:=hB.cell;unfold ZO;generalize decide (Qm a b<0)=z at hc ⊢;have HC:=qgv hc;clear hc h1 h2 hA hB;by_cases hgt:b.length<a.length
 ·have a7:(b.length:Int)<(a.length:Int):=by omega
  have hv:(decide (b.length<a.length) || (decide (a.length=b.length) && z))=true:=by simp[hgt]
  have HV:=qgv hv;clear hv hgt;go_enter Tp.x98,qqm;go_wp2_with (go_at_call 99;refine(HC.out).mono ?_;rintro e w2 ⟨rfl,rfl⟩);go_ret;exact⟨by rw[HV.out];rfl,rfl⟩
 ·have a7:¬ (b.length:Int)<(a.length:Int):=by omega
  by_cases a6:a.length=b.length
  ·have a8:((a.length:Int) == (b.length:Int))=true:=by simp[a6]
   have hv:(decide (b.length<a.length) || (decide (a.length=b.length) && z))=z:=by simp[a6]
   have HV:=qgv hv;clear hv hgt a6;go_enter Tp.x98,qqm;go_wp2_with (go_at_call 99;refine(HC.out).mono ?_;rintro e w2 ⟨rfl,rfl⟩);go_ret;exact⟨by rw[HV.out];rfl,rfl⟩
  ·have a8:((a.length:Int) == (b.length:Int))=false:=by rw[beq_eq_false_iff_ne];omega
   have hv:(decide (b.length<a.length) || (decide (a.length=b.length) && z))=false:=by simp[a6];omega
   have HV:=qgv hv;clear hv hgt a6;go_enter Tp.x98,qqm;go_wp2_with (go_at_call 99;refine(HC.out).mono ?_;rintro e w2 ⟨rfl,rfl⟩);go_ret;exact⟨by rw[HV.out];rfl,rfl⟩
def jD(n:Nat):List Int:=(qht n).map λ(i:Nat)=>(i:Int)
theorem zI(n:Nat):(jD n).length=n:=by simp[jD]
theorem q8f(n:Nat):jD (n+1)=jD n++[(n:Int)]:=by simp[jD,qkH]
theorem Q9(yb:Option qi5)(n yc:Nat)(lim:Int)(w:qgx)(hn:n<=1000) :qhw Ya 100 #[.agg #[.slice yb n yc,lim]] w λe w'=>∃v,e=.returned v/\w.grownBy w' none/\qf w.heap.size w'.heap.size w' v (jD n):=by
 obtain⟨i0,b9,b8,b7,b6⟩:=qjj Tp.info3p;obtain⟨Y,w1,hY,a9,a8,b0⟩:=zr w (.cells #[.slice yb n yc,lim] 91);have q0:w1.cell? Y=some (.slice yb n yc):=q8 b0 rfl;have c9:Y<=w1.heap.size:=by have:=a8.size;omega
 have ⟨HW1,HY,HG1⟩:=z8 a9 hY a8;clear a9 hY a8 b0;go_enter Tp.x100,Tryz.ntmps100;go_upto_region 1 with(fail);rw[<- HY.out,<- HW1.out];go_wp2;go_loopw [3,9] (λov iv wr=>∃k:Nat,iv=.int .i64 k/\k<=n/\w1.grownBy wr none/\wr.ownsRow w1.heap.size 3 1 ov k ((jD k).map (qhj .i64))) (λ_ iv _=>(n - qi9 iv).toNat)
 case atStart=>exact⟨0,rfl,by omega,qh1 _ _,qjh _ _ _ _⟩
 case round=>
  obtain⟨k,rfl,hk,hG,hO⟩:=hrel;obtain⟨oa,om,oc,rfl⟩:=zt hO;have ⟨HG,HO⟩:=qH hG hO;have c8:=hG.size;by_cases hlt:k<n
  ·have c3:(k:Int)<(n:Int):=by omega
   clear hG hO;go_wp2_with (at_builtin;(refine qks _ rfl _ _ 29 rfl w1.heap.size 3 i0 _ 1 8 Tp.und29' b9 b8 b7 b6 rfl (by decide) (.slice oa om oc) k _ rfl (HO.out.alloc _) ⟨wr.heap.size,0,none⟩ 1 1 [.int .i64 k] rfl rfl (qiw (cs:=#[k]) (t:=3) (fr:=(0,0)) (qgF wr _)) (by simp[qjk]) (by unfold qkq;omega) (by omega) (by simp;omega) ?_);intro v' w7 a6 a7 _;obtain⟨g',cap',rfl⟩:=ownsRow_succ a6;have HO7:=qgv a6;have HG7:=qgv a7;clear a6 a7);go_roundw
   case rel=>
    refine⟨k+1,by simp,by omega,(HG.out.trans (qgw _ _ none)).andThen HG7.out (λj e=>.inl (HO.out.lt j e).1),?_⟩;rw[q8f,qji];exact HO7.out
   case measure=>simp[qi9];omega
  ·obtain rfl:k=n:=by omega
   clear hG hO;go_wp2;go_ret;exact⟨_,rfl,HG1.out.trans HG.out,(qf.own HO.out (by rw[zI];omega)).mono HG1.out.size (qgA _)⟩
def qgf(L:Nat)(s:Bool)(bv xv:qgB)(a6 x:List Int)(w w':qgx):Prop :=
 w.grownBy w' (some L)/\w'.heap[L]?=some (.cells #[.func (.func 98) #[] #[],if s=true/\ZO x a6=false then bv else xv,.bool true] 108 (0,0))
theorem q9A(L:Nat)(s:Bool)(bv xv:qgB)(a6 x:List Int)(w:qgx)(hL:w.heap[L]?=some (.cells #[.func (.func 98) #[] #[],bv,.bool s] 108 (0,0)))(hb:qf 0 w.heap.size w bv a6)(hx:qf 0 w.heap.size w xv x) :qhw Ya 103 #[.pointer (some L),xv] w λe w'=>e=.returned (.tuple #[])/\qgf L s bv xv a6 x w w':=by
 obtain⟨bb,bc,rfl,-,-⟩:=hb.cell;obtain⟨xb,xc,rfl,-,-⟩:=hx.cell;have c0:w.cell? L=some (.func (.func 98) #[] #[]):=q8 hL rfl;have c1:w.cell? ⟨L,1,none⟩=some (.slice bb a6.length bc):=q8 hL rfl;have c2:w.cell? ⟨L,2,none⟩=some (.bool s):=q8 hL rfl;have z1:w.frozen? ⟨L,1,none⟩=false:=qm hL;have z2:w.frozen? ⟨L,2,none⟩=false:=qm hL;have ⟨HL,HB,HX⟩:=z8 hL hb hx;have SC:=qgv (qhb c0 (qhb c1 c2));clear hL hb hx;go_enter Tp.x103,Tryz.ntmps103;cases s with
 | false=>
  go_wp2_with (fail);go_quiet (fail);go_wp2;go_end0;refine⟨rfl,((qi _ _ _).trans (qe _ _ _ _)).trans (qe _ _ _ _),?_⟩;rw[if_neg (by simp ),qg (show((w.drewN nq).setCell ⟨L,1,none⟩ (.slice xb x.length xc)).heap[L]?=some (.cells #[.func (.func 98) #[] #[],.slice xb x.length xc,.bool false] 108 (0,0)) by rw[qg (show(w.drewN nq).heap[L]?=_ from HL.out)];rfl)];rfl
 | true=>
  cases hl:ZO x a6 with
  | true=>
   have HLL:=qgv hl;clear hl;go_wp2_with (fail);go_quiet (first | (go_at_call 98;refine qiH ((q1g 0 w.heap.size 0 w.heap.size _ _ x a6 _ (HX.out.kept (qi _ _ none)) (HB.out.kept (qi _ _ none))).mono (λe w5 h=>⟨by rw[h.1,HLL.out],h.2.symm⟩))));go_wp2;go_end0;refine⟨rfl,((qi _ _ _).trans (qe _ _ _ _)).trans (qe _ _ _ _),?_⟩;rw[if_neg (by simp[HLL.out]),qg (show((w.drewN nq).setCell ⟨L,1,none⟩ (.slice xb x.length xc)).heap[L]?=some (.cells #[.func (.func 98) #[] #[],.slice xb x.length xc,.bool true] 108 (0,0)) by rw[qg (show(w.drewN nq).heap[L]?=_ from HL.out)];rfl)];rfl
  | false=>
   have HLL:=qgv hl;clear hl;go_wp2_with (fail);go_quiet (first | (go_at_call 98;refine qiH ((q1g 0 w.heap.size 0 w.heap.size _ _ x a6 _ (HX.out.kept (qi _ _ none)) (HB.out.kept (qi _ _ none))).mono (λe w5 h=>⟨by rw[h.1,HLL.out],h.2.symm⟩))));go_wp2;go_end0;refine⟨rfl,(qi _ _ _),?_⟩;rw[if_pos ⟨rfl,HLL.out⟩];exact HL.out
end
section
open Go Go.RowKit
def A5(l:List Int):qgB:=.agg (l.map (qhj .i64)).toArray
theorem Tp.und118:Ya.underlying 118=some (.array 5 3):=by rw[Tp.und];exact Tryz.underlying118
theorem Tp.und120:Ya.underlying 120=some (.map 118 3):=by rw[Tp.und];exact Tryz.underlying120
theorem Tp.und3q:Ya.underlying 3=some (.int .i64):=by rw[Tp.und];exact Tryz.underlying3
theorem qe1(l:List Int)(i:Nat)(x:Int)(h:l[i]?=some x)(w:qgx):(part 3 (l.map (qhj .i64)).toArray i).run Ya w=.ok (.int .i64 x) w :=
 run_part_plain w (by kernel_rfl) (by simp[h])
theorem qbC(x y:Int)(s t:List Int):decide (x::s=y::t)=((x == y) && decide (s=t)):=by
 by_cases e:x=y<;>simp[e]
theorem q4q(a b:List Int)(hl:a.length=b.length)(w:qgx):∀(m k:Nat),k+m=a.length->(Op.eqItems 9999 3 1 (a.map (qhj .i64)).toArray (b.map (qhj .i64)).toArray (qnD k m)).run Ya w=.ok (decide (a.drop k=b.drop k)) w
 | 0,k,h=>by
  rw[qke (by omega),qke (by omega)];simp[Op.eqItems]
 | m+1,k,h=>by
  have ih:=q4q a b hl w m (k+1) (by omega);have ha:a[k]?=some a[k]:=qgG (by omega);have hb:b[k]?=some b[k]:=qgG (by omega);rw[List.range'_succ];simp only[Op.eqItems,Nat.mul_one,qiy,qe1 a k _ ha,qe1 b k _ hb,qiv,run_equalIn_int w 9998 3 .i64 .i64 _ _ Tp.und3q];have hd:decide (a.drop k=b.drop k)=((a[k] == b[k]) && decide (a.drop (k+1)=b.drop (k+1))):=by
   rw[qjB (show k<a.length by omega),qjB (show k<b.length by omega)];exact qbC _ _ _ _
  rw[hd];cases(a[k] == b[k])
  ·simp
  ·simpa using ih
theorem eqA5(a b:List Int)(ha:a.length=5)(hb:b.length=5)(w:qgx):(Op.equalIn 10000 118 (A5 a) (A5 b)).run Ya w=.ok (decide (a=b)) w:=by
 obtain⟨i,hi⟩:∃i,Ya.info? 3=some i:=⟨_,(qjj Tp.info3p).choose_spec.1⟩;have hc:Ya.cellsOf 3=1:=by kernel_rfl
 unfold A5;rw[show(10000:Nat)=9999+1 from rfl,run_equalIn_array w 9999 _ _ Tp.und118 hi,hc,List.range_eq_range',q4q a b (by omega) w 5 0 (by omega)];rfl
theorem qbj(a:List Int)(ha:a.length=5)(w:qgx):∀(es:List qkk) (K:List (List Int)) (i:Nat),es.map (·.key)=K.map A5->(∀k∈K,k.length=5)->(∀e∈es,∃v:Int,e.val=.int .i64 v) ->∃r,(qlb 118 (A5 a) es i).run Ya w=.ok r w/\(a∈K->∃j v,r=some (j,.int .i64 v))/\(a∉K->r=none)
 | [],K,i,h,_,_=>by
  have:K=[]:=by simpa using h.symm
  subst this;exact⟨none,by simp[qlb],by simp,by simp⟩
 | e::es,[],i,h,_,_=>by simp at h
 | e::es,k::K,i,h,h5,hv=>by
  simp only[qla,qk0] at h;have he:=eqA5 a k ha (h5 k (by simp)) w;have hq:(Op.equal 118 (A5 a) e.key).run Ya w=.ok (decide (a=k)) w:=by rw[h.1];exact he
  by_cases hk:a=k
  ·subst hk;obtain⟨v,a6⟩:=hv e (by simp);refine⟨some (i,e.val),?_,λ_=>⟨i,v,by rw[a6]⟩,λhn=>absurd (by simp) hn⟩;simp only[qlb,qiy,hq,qiv,decide_true,if_true,qms]
  ·obtain⟨r,h1,h2,h3⟩:=qbj a ha w es K (i+1) h.2 (λx hx=>h5 x (by simp[hx])) (λx hx=>hv x (by simp[hx]));refine⟨r,?_,λhm=>h2 ((qix.1 hm).resolve_left hk),λhn=>h3 λhm=>hn (by simp[hm])⟩;simp only[qlb,qiy,hq,qiv];simpa[hk] using h1
theorem qg8(a b:Array qgB)(v:qgB)(n:Nat)(es:List qkk)(w:qgx):(qlu 118 (.agg a) (⟨.agg b,v,n⟩::es)).run Ya w=(qlb 118 (.agg a) (⟨.agg b,v,n⟩::es)).run Ya w:=by kernel_rfl
theorem q4k(a:List Int)(ha:a.length=5)(w:qgx)(es:List qkk)(K:List (List Int))(h:es.map (·.key)=K.map A5)(h5:∀k∈K,k.length=5)(hv:∀e∈es,∃v:Int,e.val=.int .i64 v) :∃r,(qlu 118 (A5 a) es).run Ya w=.ok r w/\(a∈K->∃j v,r=some (j,.int .i64 v))/\(a∉K->r=none):=by
 cases es with
 | nil=>
  have:K=[]:=by simpa using h.symm
  subst this;exact⟨none,by unfold A5;kernel_rfl,by simp,by simp⟩
 | cons e es=>
  obtain⟨k,K',rfl⟩:∃k K',K=k::K':=by
   cases K with
   | nil=>simp at h
   | cons k K'=>exact⟨k,K',rfl⟩
  obtain⟨r,h1,h2⟩:=qbj a ha w (e::es) (k::K') 0 h h5 hv;refine⟨r,?_,h2⟩;obtain⟨ek,ev,eb⟩:=e;have hk:ek=A5 k:=by simpa using(List.cons.inj h).1
  subst hk;exact(qg8 _ _ ev eb es w).trans h1
theorem q6k(b:Bool)(a:List Int)(ha:a.length=5)(w:qgx):(qkC b 10000 118 (A5 a)).run Ya w=.ok () w:=by
 obtain⟨a0,a1,a2,a3,a4,rfl⟩:∃a0 a1 a2 a3 a4,a=[a0,a1,a2,a3,a4]:=by
  rcases a with _ | ⟨a0,_ | ⟨a1,_ | ⟨a2,_ | ⟨a3,_ | ⟨a4,_ | ⟨a5,t⟩⟩⟩⟩⟩⟩<;>simp at ha;exact⟨a0,a1,a2,a3,a4,rfl⟩
 show(qkC b 10000 118 (.agg #[.int .i64 a0,.int .i64 a1,.int .i64 a2,.int .i64 a3,.int .i64 a4])).run Ya w=.ok () w;kernel_rfl
def zP(w:qgx)(r:Nat)(K:List (List Int)):Prop :=
 ∃es clock,w.heap[r]?=some (.map es clock)/\es.toList.map (·.key)=K.map A5/\(∀k∈K,k.length=5)/\∀e∈es.toList,∃v:Int,e.val=.int .i64 v
theorem zP.look{w:qgx}{r:Nat}{K:List (List Int)}(h:zP w r K)(a:List Int)(ha:a.length=5):∃v:Int,(qmp 120 (.map (some r)) (A5 a) true).run Ya w=.ok (.tuple #[v,.bool (decide (a∈K))]) w:=by
 obtain⟨es,clock,h1,h2,h3,h4⟩:=h;obtain⟨q,k1,k2,k3⟩:=q4k a ha w es.toList K h2 h3 h4;have hz:∀w,(qlz 3).run Ya w=.ok (.int .i64 0) w:=λw=>by kernel_rfl
 by_cases hm:a∈K
 ·obtain⟨j,v,rfl⟩:=k2 hm;refine⟨v,?_⟩;simp[qmp,qiy,qnj Tp.und120,getObj,qih,h1,qmk,q6k _ a ha,k1,hm]
 ·obtain rfl:=k3 hm;refine⟨0,?_⟩;simp[qmp,qiy,qnj Tp.und120,getObj,qih,h1,qmk,q6k _ a ha,k1,hm,hz]
theorem zP.add{w:qgx}{r:Nat}{K:List (List Int)}(h:zP w r K)(a:List Int)(ha:a.length=5)(hn:a∉K)(v:Int):∃o,(∀m t,o≠.cells m t (0,0))/\(qiB 120 (.map (some r)) (A5 a) (.int .i64 v)).run Ya w=.ok () (w.putObj r o)/\∀w',w'.heap[r]?=some o->zP w' r (K++[a]):=by
 obtain⟨es,clock,h1,h2,h3,h4⟩:=h;obtain⟨q,k1,k2,k3⟩:=q4k a ha w es.toList K h2 h3 h4;obtain rfl:=k3 hn;refine⟨.map (es.push ⟨A5 a,.int .i64 v,clock⟩) (clock+1),(λm t e=>(by cases e)),?_,λw' hw=>⟨_,_,hw,by simp[h2],λk hk=>?_,λe he=>?_⟩⟩
 ·simp[qiB,qiy,qnj Tp.und120,getObj,setObj,qih,h1,qmk,q6k _ a ha,k1,World.putObj]
 ·rcases qjv.1 hk with h | h
  ·exact h3 k h
  ·rw[qjC.1 h];exact ha
 ·rw[Array.toList_push] at he;rcases qjv.1 he with h | h
  ·exact h4 e h
  ·rw[qjC.1 h];exact⟨v,rfl⟩
theorem zP.nil{w:qgx}{r:Nat}(h:w.heap[r]?=some (.map #[] 0)):zP w r []:=⟨_,_,h,rfl,by simp,by simp⟩
theorem zP.kept{w w':qgx}{r:Nat}{K:List (List Int)}(h:zP w r K)(e:w'.heap[r]?=w.heap[r]?):zP w' r K:=by
 obtain⟨es,clock,h1,h2⟩:=h;exact⟨es,clock,e.trans h1,h2⟩
end
section
open Go.RowKit
def J1(n1:Nat)(G:Nat->Prop)(W:qgx)(v:qgB)(l:List Int):Prop:=qf n1 W.heap.size W v l/\∀B o n c,v=.slice (some ⟨B,o,none⟩) n c->l≠[]->¬ G B
theorem J1.bod{n1:Nat}{G G':Nat->Prop}{A C:qgx}{v:qgB}{l:List Int}(h:J1 n1 G A v l)(hb:Bod n1 n1 G G' A C):J1 n1 G' C v l:=by
 obtain⟨⟨base,cap,rfl,hl,hr⟩,hf⟩:=h;refine⟨⟨base,cap,rfl,hl,λhne=>?_⟩,λB o n c e hne hg=>?_⟩
 ·obtain⟨B,o,cs,fr,e1,e2,e3,e4,e5⟩:=hr hne;exact⟨B,o,cs,fr,e1,e2,qh7 e3 hb.size,(hb.keep B e3 (.inl e2) (hf B o _ _ (by rw[e1]) hne)).trans e4,e5⟩
 ·obtain⟨B',o',cs,fr,e1,e2,e3,e4,e5⟩:=hr hne;rw[e1] at e;cases e;exact(hb.fp _ hg).elim (hf _ _ _ _ (by rw[e1]) hne) (by omega)
theorem jP{n1 B:Nat}{G:Nat->Prop}{A C:qgx}(hg:A.grownBy C none):Bod n1 B G G A C:=⟨hg.tape,hg.size,λk hk _ _=>hg.block k hk (by simp),λ_ h=>.inl h⟩
structure JR(n1 E Lv Gp:Nat)(lb:Option qi5)(lc:Nat)(ws:List Int)(fE:qib)(ju:Array qgB)(G:Nat->Prop)(W:qgx):Prop where
 en:W.heap[E]?=some (.cells #[.func (.func fE) #[] ju] 51 (0,0))
 ls:W.heap[Lv]?=some (.cells #[.slice lb ws.length lc] 29 (0,0))
 li:J1 n1 G W (.slice lb ws.length lc) ws
 gr:W.heap[Gp]?=some (.cells #[.func (.func 136) #[] #[.pointer (some E),.pointer (some Lv),.pointer (some Gp)]] 151 (0,0))
 ge:n1<=E/\n1<=Lv/\n1<=Gp
 nf:¬ G E/\¬ G Lv/\¬ G Gp
section
variable{n1 E Lv Gp:Nat}{lb:Option qi5}{lc:Nat}{ws:List Int}{fE:qib}{ju:Array qgB}{G G':Nat->Prop}{A C:qgx}
theorem JR.bod(h:JR n1 E Lv Gp lb lc ws fE ju G A)(hb:Bod n1 n1 G G' A C):JR n1 E Lv Gp lb lc ws fE ju G' C:=by
 have e1:=(qgy.1 h.en).1;have e2:=(qgy.1 h.ls).1;have e3:=(qgy.1 h.gr).1;exact⟨(hb.keep E e1 (.inl h.ge.1) h.nf.1).trans h.en,(hb.keep Lv e2 (.inl h.ge.2.1) h.nf.2.1).trans h.ls,h.li.bod hb,(hb.keep Gp e3 (.inl h.ge.2.2) h.nf.2.2).trans h.gr,h.ge,
  λe=>(hb.fp _ e).elim h.nf.1 (by omega),λe=>(hb.fp _ e).elim h.nf.2.1 (by omega),λe=>(hb.fp _ e).elim h.nf.2.2 (by omega)⟩
end
def qcf(ws:List Int)(done L:List (List Int)):Prop:=∃t,yt ws 0=done++(L++t)
structure Cb(n1:Nat)(ws:List Int)(fE:qib)(ju:Array qgB)(I:List (List Int)->(Nat->Prop)->qgx->Prop):Prop where
 hI:∀s G A C,I s G A->A.grownBy C none->I s G C
 hlt:∀s G A,I s G A->∀k,G k->k<A.heap.size
 en:∀a w,(callFunc fE a).run Ya w=.ok (.enter fE a) w
 cb:∀done G W v c,I done G W->qf 0 W.heap.size W v c->(c≠[]\/v=.slice none 0 0)->c.Sublist ws->qcf ws done [c] ->
  qhw Ya fE (#[v]++ju) W λe W'=>e=.returned (.bool false)/\∃G',I (done++[c]) G' W'/\Bod n1 n1 G G' W W'
def GrA(n1:Nat)(I:List (List Int)->(Nat->Prop)->qgx->Prop)(L:List (List Int))(done:List (List Int))(G:Nat->Prop)(W:qgx)(e:Ending)(W':qgx):Prop :=
 e=.returned (.bool false)/\∃G',I (done++L) G' W'/\Bod n1 n1 G G' W W'
theorem qg5{n1 E Lv Gp:Nat}{lb:Option qi5}{lc:Nat}{ws:List Int}{fE:qib}{ju:Array qgB}{I:List (List Int)->(Nat->Prop)->qgx->Prop}(cb:Cb n1 ws fE ju I){now:List Int}{from_:Nat}{nb:Option qi5}{nc:Nat}{W:qgx}{G:Nat->Prop}{done:List (List Int)}(a6:now.Sublist (ws.take from_))(hS:JR n1 E Lv Gp lb lc ws fE ju G W)(hN:J1 n1 G W (.slice nb now.length nc) now)(hne:now≠[]\/qi1 nb now.length nc=.slice none 0 0)(a7:qcf ws done (zM ws 0 now from_))(h:I done G W) :qhw Ya 136 #[.slice nb now.length nc,from_,.int .i64 (0:Nat),.pointer (some E),.pointer (some Lv),.pointer (some Gp)] W (GrA n1 I (zM ws 0 now from_) done G W):=by
 have c1:W.cell? E=some (.func (.func fE) #[] ju):=q8 hS.en rfl;have b0:=cb.en;have hc:=cb.cb done G W _ now h (hN.1.mono (qhx _) (qgA _)) hne (a6.trans (qql _ _)) a7;have HC:=qgv hc;clear hc hS hN h hne a7;go_enter Tp.x136,Tryz.ntmps136;go_wp2_with (refine(HC.out).mono ?_;rintro e w2 ⟨rfl,G2,a9,a8⟩);go_ret;exact⟨rfl,G2,a9,a8⟩
theorem Qe(w:qgx)(a6 old:Nat)(e:qh8):a6<=qkG w a6 old e:=by
 unfold qkG;simp only[Question.cut];omega
theorem q15{w:qgx}{l:List Int}{zs:Array qgB}(hl:l.length<=1000000)(cap:Nat) :qf w.heap.size (w.drew.alloc (.cells ((l.map (qhj .i64)).toArray++zs) 3)).heap.size (w.drew.alloc (.cells ((l.map (qhj .i64)).toArray++zs) 3)) (.slice (some w.heap.size) l.length cap) l:=by
 have hh:(w.drew.alloc (.cells ((l.map (qhj .i64)).toArray++zs) 3)).heap[w.heap.size]?=some (.cells ((l.map (qhj .i64)).toArray++zs) 3 (0,0)):=qgF w.drew _;refine⟨_,cap,rfl,by omega,λ_=>⟨w.heap.size,0,_,_,rfl,qgA _,?_,hh,λi hi=>?_⟩⟩
 ·exact(qgy.1 hh).1
 ·rw[qhf,qml (by simpa using hi)];simp[qgG hi]
theorem q85{w:qgx}{nb:Option qi5}{nc B:Nat}{now:List Int}{x:Int}(ty:qh8)(hN:qf 0 w.heap.size w (.slice nb now.length nc) now)(hx:w.cell? B=some (.int .i64 x))(hl:now.length<=1000) :∃g cap w',(qku #[29,29] ty #[.slice nb now.length now.length,.slice (some B) 1 1]).run Ya w=.ok (.slice (some ⟨g,0,none⟩) (now.length+1) cap) w'/\w.heap.size<=g/\w.grownBy w' none /\qf w.heap.size w'.heap.size w' (.slice (some ⟨g,0,none⟩) (now.length+1) cap) (now++[x])/\now.length+1<=cap:=by
 obtain⟨i0,b8,b7,a8,b6⟩:=qjj Tp.info3p;have a7:∀j v,([qhj .i64 x]:List qgB)[j]?=some v->w.cell? ((⟨B,0,none⟩:qi5).add j)=some v:=λj v hj=>by
  have:j=0:=by have:=(qh9.1 hj).1;simp at this;omega
  subst this;simp at hj;subst hj;simpa[Addr.add] using hx
 have b0:(now++[x]).length=now.length+1:=by simp
 cases nb with
 | none=>
  have h0:now=[]:=by
   refine qhF λhne=>?_;obtain⟨base,cap,e,_,hr⟩:=hN;cases e;obtain⟨B,o,cs,fr,e1,_⟩:=hr hne;cases e1
  subst h0;have hr:=run_append_nil (P:=Ya) w 29 ty 3 i0 _ Tp.und29' b8 b7 ⟨B,0,none⟩ 1 1 [qhj .i64 x] (by rw[a8];rfl) a7 (by omega) (by omega) (by rw[b6];omega);have:=q15 (w:=w) (l:=[x]) (zs:=qjf (qhj .i64 0).cells (qkG w 1 0 3 - 1)) (by simp) (qkG w 1 0 3);exact⟨_,_,_,hr,qgA _,(qc w none).trans (qgw _ _ none),this,Qe _ _ _ _⟩
 | some b=>
  have a9:∀j v,(now.map (qhj .i64))[j]?=some v->w.cell? (b.add j)=some v:=λj v hj=>by
   have a6:j<now.length:=by simpa using(qh9.1 hj).1
   obtain⟨base,cap,e,_,hc⟩:=hN.cell;cases e;obtain⟨B',o,e1,_,_,_,h4⟩:=hc (by intro e;rw[e] at a6;simp at a6);cases e1;have h5:=h4 j a6;rw[qj7,qgG a6] at hj;rw[qgG a6] at h5;cases hj;exact yg h5
  have hr:=run_append_grow (P:=Ya) w 29 ty 3 i0 _ Tp.und29' b8 b7 b now.length now.length (now.map (qhj .i64)) (by rw[a8];simp) a9 ⟨B,0,none⟩ 1 1 [qhj .i64 x] (by rw[a8];rfl) a7 (by omega) (by omega) (growslice_fits (by omega) (by rw[b6];omega));have:=q15 (w:=w) (l:=now++[x]) (zs:=qjf (qhj .i64 0).cells (qkG w (now.length+1) now.length 3 - (now.length+1))) (by simp;omega) (qkG w (now.length+1) now.length 3);have e:(now.map (qhj .i64)).toArray++[qhj .i64 x].toArray=((now++[x]).map (qhj .i64)).toArray:=by simp
  rw[e] at hr;rw[b0] at this;exact⟨_,_,_,hr,qgA _,(qc w none).trans (qgw _ _ none),this,Qe _ _ _ _⟩
theorem q5d{ops:Array qiu}{o:qiu}{a:Act}{w:qgx}{K:Act->qgx->Prop}{Q:Exit->Act->qgx->Prop}{E:Prop}(a6:qhv o (qj4 ops a.tmps)=true)(s x:qhE)(hop:o.op=.call { callee:=.builtin .append,args:=#[s,x],argTypes:=#[29,29] }){nb:Option qi5}{nc B:Nat}{now:List Int}{y:Int}(hs:a.eval s=.slice nb now.length now.length)(hx:a.eval x=.slice (some B) 1 1)(hN:qf 0 w.heap.size w (.slice nb now.length nc) now)(hy:w.cell? B=some (.int .i64 y))(hl:now.length<=1000)(h:∀g cap w',w.heap.size<=g->w.grownBy w' none->qf w.heap.size w'.heap.size w' (.slice (some ⟨g,0,none⟩) (now.length+1) cap) (now++[y])->now.length+1<=cap->K (a.put o.dst (.slice (some ⟨g,0,none⟩) (now.length+1) cap)) w') :if qhv o (qj4 ops a.tmps)=true then Oper.wp Ya o a w K Q else E:=by
 rw[if_pos a6];obtain⟨g,cap,w',hr,h1,h2,h3,h4⟩:=q85 o.type hN hy hl;unfold Oper.wp qk3;simp only[hop,resolve,invoke,builtin,qiy,qms,qiv,qmu,qla,qnh,hs,hx,hr];exact h g cap w' h1 h2 h3 h4
theorem qg4{n1 E Lv Gp:Nat}{lb:Option qi5}{lc:Nat}{ws:List Int}{fE:qib}{ju:Array qgB}{I:List (List Int)->(Nat->Prop)->qgx->Prop}(cb:Cb n1 ws fE ju I)(e7:ws.length<=1000)(m:Nat)(ih:∀(now:List Int) (from_:Nat) (nb:Option qi5) (nc:Nat) (W:qgx) (G:Nat->Prop) (done:List (List Int)),m+now.length<=ws.length->from_<=1001->now.Sublist (ws.take from_)->JR n1 E Lv Gp lb lc ws fE ju G W->J1 n1 G W (.slice nb now.length nc) now->(now≠[]\/qi1 nb now.length nc=.slice none 0 0)->now.length<=nc->qcf ws done (zM ws m now from_)->I done G W ->qhw Ya 136 #[.slice nb now.length nc,from_,m,.pointer (some E),.pointer (some Lv),.pointer (some Gp)] W (GrA n1 I (zM ws m now from_) done G W))(now:List Int)(from_:Nat)(nb:Option qi5)(nc:Nat)(W:qgx)(G:Nat->Prop)(done:List (List Int))(g6:m+1+now.length<=ws.length)(d7:from_<=1001)(a8:now.Sublist (ws.take from_))(hS:JR n1 E Lv Gp lb lc ws fE ju G W)(hN:J1 n1 G W (.slice nb now.length nc) now)(hne:now≠[]\/qi1 nb now.length nc=.slice none 0 0)(hnc:now.length<=nc)(b6:qcf ws done (zM ws (m+1) now from_))(h:I done G W) :qhw Ya 136 #[.slice nb now.length nc,from_,.int .i64 ((m:Int)+1),.pointer (some E),.pointer (some Lv),.pointer (some Gp)] W (GrA n1 I (zM ws (m+1) now from_) done G W):=by
 have g7:((m:Int)+1 == 0)=false:=by
  rw[beq_eq_false_iff_ne];omega
 have ⟨HIH,HS,HN,HH,HSUB,HPF⟩:=Kh ih hS hN h a8 b6;clear b6;have e8:IntKind.i64.wrap (m:Int)=(m:Int):=qhp _ (by omega);clear ih hS hN h hne a8;go_enter Tp.x136,Tryz.ntmps136;go_wp2;go_loopw [10] (λiv wr=>∃i:Nat,iv=.int .i64 i/\from_<=i/\i<=1001/\∃Gk L,zM ws (m+1) now from_=L++zM ws (m+1) now i/\I (done++L) Gk wr/\Bod n1 n1 G Gk W wr) (λiv _=>(1002 - qi9 iv).toNat)
 case atStart=>exact⟨from_,rfl,qgA _,d7,G,[],rfl,by simpa using HH.out,jP (qh1 _ _)⟩
 case round=>
  obtain⟨i,rfl,d8,g8,Gk,L,hL,c3,a7⟩:=hrel;have HSR:=qgv (HS.out.bod a7);have e5:=qgv (HN.out.bod a7);have ⟨HL,HIK,HBK⟩:=z8 hL c3 a7;clear hL c3 a7;have c1:wr.cell? Lv=some (.slice lb ws.length lc):=q8 HSR.out.ls rfl;by_cases hlt:i<ws.length
  ·have e6:(i:Int)<(ws.length:Int):=by omega
   obtain⟨x,a9⟩:∃x,ws[i]?=some x:=⟨_,qgG hlt⟩;obtain⟨b1,k0,he,-,hc⟩:=HSR.out.li.1.cell;cases he;obtain⟨LB,lo,rfl,h9,h8,g9,c8⟩:=hc (by intro e;rw[e] at hlt;simp at hlt);have hx:=c8 i hlt;rw[a9] at hx;simp only[qgH] at hx;have d0:wr.cell? Gp=some (.func (.func 136) #[] #[.pointer (some E),.pointer (some Lv),.pointer (some Gp)]):=q8 HSR.out.gr rfl;have d1:=c1;have d2:=hx;have e9:IntKind.i64.wrap ((i:Int)+1)=((i+1:Nat):Int):=by rw[qhp _ (by omega)];rfl
   have hni:0<=(i:Int):=by omega
   have g5:(now.length:Int)<=(nc:Int):=by omega
   have HXE:=qgv a9;clear hc c8 hx a9;go_upto_region 6 with(fail);refine qJ 17 (λw'=>w'.cell? Gp=some (.func (.func 136) #[] #[.pointer (some E),.pointer (some Lv),.pointer (some Gp)])/\w'.cell? Lv=some (.slice (some ⟨LB,lo,none⟩) ws.length lc)/\w'.cell? ⟨LB,lo+i,none⟩=some (.int .i64 x)) (by kernel_rfl) (by kernel_rfl) ⟨d0,d1,d2⟩ (λa6=>?_);simp only[qh3,qhc,qhk,qii,qhf,qhq,qhr,qhC,qho,qhe];refine tk 0 (h:=tk 1 (h:=tk 2 (h:=tk 3 (h:=tk 4 (h:=tk 5 (h:=tk 6 (h:=tk 7 (h:=tk 8 (h:=tk 9 (h:=tk 10 (h:=tk 13 (h:=tk 14 (h:=tk 15 (h:=tk 16 (h:=?_)))))))))))))));try go_frame
   refine rdc 11 λK hK=>?_;go_simp;refine hK.out _ _ (by first | exact s5 | exact a6 | exact⟨(qgw _ _ none).cl a6.1,(qgw _ _ none).cl a6.2.1,(qgw _ _ none).cl a6.2.2⟩) (λa6=>?_);clear hK K;try go_frame
   refine rdc 12 λK hK=>?_;refine q5d rfl (.tmp 29) (.tmp 34) rfl (nc:=nc) (B:=wr.heap.size) (y:=x) (by rfl) (by rfl) (((e5.out.1.kept ((qc wr none).trans (qgw wr.drew (.cells #[.int .i64 x] 3) none))).mono (qhx _) ((qc wr none).trans (qgw wr.drew (.cells #[.int .i64 x] 3) none)).size)) (kL wr.drew _ _ _) (by omega) (λg cap w' q1 q2 q3 q5=>?_);have HQ2:=qgv (((qc wr none).trans (qgw wr.drew (.cells #[.int .i64 x] 3) none)).trans q2);have ⟨HQ3,HQ1,HQ5⟩:=z8 q3 q1 q5;have s5:=qhb (HQ2.out.cl d0) (qhb (HQ2.out.cl d1) (HQ2.out.cl d2));clear q1 q2 q3 q5;refine hK.out _ _ (by first | exact s5 | exact a6 | exact⟨(qgw _ _ none).cl a6.1,(qgw _ _ none).cl a6.2.1,(qgw _ _ none).cl a6.2.2⟩) (λa6=>?_);clear hK K;try go_frame
   refine⟨by kernel_rfl,?_⟩;simp only[qhu,qia];clear a6 s5;have d6:n1<=wr.heap.size:=qqn (Nat.lt_of_le_of_lt HSR.out.ge.1 (qgy.1 HSR.out.en).1);have b7:(wr.drew.alloc (.cells #[.int .i64 x] 3)).heap.size=wr.heap.size+1:=by rw[qh6];rfl
   have d5:wr.heap.size<=g:=by have h1:=HQ1.out;have h2:((wr.alloc (.cells #[.int .i64 x] 3)).drew).heap.size=wr.heap.size+1:=(by rw[World.size_drew,qh6]);omega
   have hbg:=HSR.out.bod (jP HQ2.out);have b9:=cb.hI _ _ _ _ HIK.out HQ2.out;have b8:J1 n1 Gk w' (.slice (some ⟨g,0,none⟩) (now.length+1) cap) (now++[x]):=by
    refine⟨HQ3.out.mono (qh0 d6 (qqn (by rw[<- Nat.add_one_le_iff];exact qlF b7.symm))) (qgA _),λB o n c e _ hg=>?_⟩;cases e;have:=cb.hlt _ _ _ HIK.out _ hg;omega
   have b0:=HIH.out (now++[x]) (i+1) (some ⟨g,0,none⟩) cap w' Gk (done++L) (by simp;omega) (by omega) (by
    rw[qig,HXE.out];exact List.Sublist.append (HSUB.out.trans (List.take_sublist_take_left d8)) (by simp)) hbg (by simpa using b8) (.inl (by simp)) (by simpa using HQ5.out) (by
    obtain⟨t,ht⟩:=HPF.out;rw[HL.out,Zj hlt,HXE.out] at ht;exact⟨_,by rw[ht];simp only[qjp];rfl⟩) b9
   rw[qio,qno] at b0;have c9:=qgv b0;clear b0 b8 b9 hbg b7 d5;go_wp2_with (go_at_call 136;refine(c9.out).mono ?_;rintro e w6 ⟨rfl,G6,e4,d9⟩);go_roundw
   case rel=>
    refine⟨i+1,by simp,by omega,by omega,G6,L++zM ws m (now++[x]) (i+1),?_,by rw[<- qjp];exact e4,HBK.out.trans ((jP HQ2.out).trans d9)⟩;rw[HL.out,Zj hlt,HXE.out,qjp];rfl
   case measure=>simp[qi9];omega
  ·have hni:¬ (i:Int)<(ws.length:Int):=by omega
   go_wp2;go_ret;exact⟨rfl,Gk,by rw[HL.out,q1j (by omega),qmD];exact HIK.out,HBK.out⟩
theorem qe7{n1 E Lv Gp:Nat}{lb:Option qi5}{lc:Nat}{ws:List Int}{fE:qib}{ju:Array qgB}{I:List (List Int)->(Nat->Prop)->qgx->Prop}(cb:Cb n1 ws fE ju I)(a6:ws.length<=1000) :∀(m:Nat) (now:List Int) (from_:Nat) (nb:Option qi5) (nc:Nat) (W:qgx) (G:Nat->Prop) (done:List (List Int)),m+now.length<=ws.length->from_<=1001->now.Sublist (ws.take from_)->JR n1 E Lv Gp lb lc ws fE ju G W->J1 n1 G W (.slice nb now.length nc) now->(now≠[]\/qi1 nb now.length nc=.slice none 0 0)->now.length<=nc->qcf ws done (zM ws m now from_)->I done G W ->qhw Ya 136 #[.slice nb now.length nc,from_,m,.pointer (some E),.pointer (some Lv),.pointer (some Gp)] W (GrA n1 I (zM ws m now from_) done G W)
 | 0,now,from_,nb,nc,W,G,done,_,_,h1,h2,h3,h4,_,h6,h5=>qg5 cb h1 h2 h3 h4 h6 h5
 | m+1,now,from_,nb,nc,W,G,done,h0,hf,h1,h2,h3,h4,h6,h7,h5=>by
  have:=qg4 cb a6 m (qe7 cb a6 m) now from_ nb nc W G done h0 hf h1 h2 h3 h4 h6 h7 h5
  rwa [show((m:Int)+1)=((m+1:Nat):Int) by omega] at this
end
section
open Go.RowKit Go.Shelf
attribute [local go_sem] Oper.semAt_some
def Z6{Y:Type}(f:Nat->Y)(k:Nat):List Y:=(qht k).map f
theorem q0i{Y:Type}(f:Nat->Y)(k:Nat):Z6 f (k+1)=Z6 f k++[f k]:=by simp[Z6,qkH]
theorem q31{Y:Type}(f:Nat->Y)(k:Nat):(Z6 f k).length=k:=by simp[Z6]
theorem q9l(zs:List Int):Z6 (λj=>zs[j]?.getD 0) zs.length=zs:=by
 apply qqC
 ·simp[Z6]
 ·intro i h1 h2;simp[Z6,h2]
theorem q7v(zs:List Int){k:Nat}(hk:k<=zs.length):Z6 (λj=>zs[j]?.getD 0) k=zs.take k:=by
 apply qqC
 ·simp[Z6,hk]
 ·intro i h1 h2;have:i<zs.length:=by simp[Z6] at h1;omega
  simp[Z6,this]
theorem q58(F:Fence)(n:Nat)(h7:F.fn 165)(hro:F.round=none)(hn:1<=n)(l Bs n₀ b off len cap:Nat)(zs:List Int)(a9:len*8<=140737488351232)(hb:b<n₀)(J Jx:List Int->qgx->Prop)(hY:∀pre x W,J pre W->pre.length<len->YieldAt F (n - 1) Ya l #[.int .i64 x] W λe W' =>(e=.returned (.bool true)/\J (pre++[x]) W'/\Below n₀ W W')\/(e=.returned (.bool false)/\Jx (pre++[x]) W'))(W:qgx)(b9:W.cell? Bs=some (.slice (some ⟨b,off,none⟩) len cap))(hc:∀j,j<len->W.cell? ⟨b,off+j,none⟩=some (.int .i64 (zs[j]?.getD 0)))(h0:J [] W) :CallsIn F n Ya 165 #[.func (.yield l) #[] #[],.pointer (some Bs)] W λe W'=>(∃v,e=.returned v) /\((∃ys,ys=Z6 (λj=>zs[j]?.getD 0) len/\J ys W')\/(∃pre,(∃k,k<=len/\pre=Z6 (λj=>zs[j]?.getD 0) k)/\Jx pre W')):=by
 refine qot Tp.x165 rfl h7 ?_ hro;simp only[Tryz.ntmps165,qhn,qh3,qhc,qhk,qii,qhq,qhr,qhC,qkh,qho,qhe]
 gi_wp2
 gi_loopw [7] (λi wr=>∃k:Nat,k<=len/\i=.int .i64 k/\J (Z6 (λj=>zs[j]?.getD 0) k) wr/\Below n₀ W wr)
  (λi _=>len - (qi9 i).toNat)
 case atStart=>exact⟨0,qhx _,rfl,h0,qn2 _ _⟩
 case round=>
  obtain⟨k,hk,rfl,a8,a6⟩:=hrel;have b6:k<len->wr.cell? ⟨b,off+k,none⟩=some (.int .i64 (zs[k]?.getD 0)):=λh=>(a6.cell (p:=⟨b,off+k,none⟩) hb).trans (hc k h);by_cases hlt:k<len
  ·obtain⟨fn,tmps,assign,body,hy,hR⟩:=hY _ (zs[k]?.getD 0) wr a8 (by rw[q31];exact hlt);have b8:=b6 hlt
   gi_wp2
   refine hR.mono ?_;rintro e W3 (⟨rfl,b7,b0⟩ | ⟨rfl,a7⟩)
   ·gi_wp2
    go_roundw
    case rel=>exact⟨k+1,by omega,by simp,by rw[q0i];exact b7,a6.trans b0⟩
    case measure=>simp[qi9];omega
   ·gi_wp2
    refine qj8 (results_none rfl _ _ _) rfl ?_;exact⟨⟨_,rfl⟩,.inr ⟨_,⟨k+1,by omega,(q0i _ _).symm⟩,a7⟩⟩
  ·obtain rfl:k=len:=by omega
   gi_wp2
   go_end0;exact⟨⟨_,rfl⟩,.inl ⟨_,rfl,a8⟩⟩
theorem q1B(F:Fence)(n:Nat)(h7:F.fn 165)(hro:F.round=none)(l Bs:Nat)(J:List Int->qgx->Prop)(W:qgx)(c:Option qi5)(k:Nat)(a7:W.cell? Bs=some (.slice c 0 k))(h0:J [] W) :CallsIn F n Ya 165 #[.func (.yield l) #[] #[],.pointer (some Bs)] W λe W'=>(∃v,e=.returned v)/\J [] W':=by
 refine qot Tp.x165 rfl h7 ?_ hro;simp only[Tryz.ntmps165,qhn,qh3,qhc,qhk,qii,qhq,qhr,qhC,qkh,qho,qhe]
 gi_wp2
 gi_loopw [7] (λi wr=>i=.int .i64 0/\J [] wr) (λ_ _=>0)
 case atStart=>exact⟨rfl,h0⟩
 case round=>
  obtain⟨rfl,a6⟩:=hrel
  gi_wp2
  go_end0;exact⟨⟨_,rfl⟩,a6⟩
theorem q1A(F:Fence)(n:Nat)(h7:F.fn 165)(hro:F.round=none)(hn:1<=n)(Bs n₀:Nat)(sv:qgB)(zs:List Int)(w:qgx)(a9:Bs<w.heap.size)(hn₀:n₀<=w.heap.size)(hc:w.cell? Bs=some sv)(hI:qf 0 n₀ w sv zs) :SeqStopsK F n Ya 165 #[.pointer (some Bs)] (λx:Int=>#[qhj .i64 x]) (Below n₀) (λys=>ys=zs) (λpre=>pre <+: zs) zs.length w:=λl J Jx W hW _ _ hY h0=>by
 have a7:=(hW.cell (p:=⟨Bs,0,none⟩) a9).trans hc;obtain⟨base,cap,rfl,b0,hcs⟩:=hI.cell;by_cases hz:zs=[]
 ·subst hz;exact(q1B F n h7 hro l Bs J W base cap a7 h0).mono λe W' ⟨he,hj⟩=>⟨he,.inl ⟨_,rfl,hj⟩⟩
 ·obtain⟨B,o,rfl,-,hB,a8,hcell⟩:=hcs hz;have a6:∀j,j<zs.length->W.cell? ⟨B,o+j,none⟩=some (.int .i64 (zs[j]?.getD 0)):=λj hj=>(hW.cell (p:=⟨B,o+j,none⟩) a8).trans (hcell j hj);refine(q58 F n h7 hro hn l Bs n₀ B o zs.length cap zs (by omega) hB J Jx hY W a7 a6 h0).mono ?_;rintro e W' ⟨he,⟨ys,rfl,hj⟩ | ⟨pre,⟨k,hk,rfl⟩,hj⟩⟩
  ·exact⟨he,.inl ⟨_,q9l zs,hj⟩⟩
  ·exact⟨he,.inr ⟨_,by rw[q7v zs hk];exact List.take_prefix _ _,hj⟩⟩
theorem q2B(F:Fence)(n:Nat)(h3:F.fn 199)(h5:F.fn 165)(hro:F.round=none)(hn:3<=n)(Bs:Nat)(sv:qgB)(xs:List Int)(w:qgx)(d5:Bs<w.heap.size)(hc:w.cell? Bs=some sv)(hI:qf 0 w.heap.size w sv xs) :CallsIn F n Ya 199 #[.slice none 0 0,.func (.func 165) #[] #[.pointer (some Bs)]] w λe W'=>∃v,e=.returned v/\W'.ownsRow w.heap.size 3 1 v xs.length (xs.map (qhj .i64))/\(v=.slice none 0 0↔xs=[])/\Below w.heap.size w W':=by
 have h1:1<=n:=by omega
 have d6:(xs.length:Int)<=1000000:=by obtain⟨_,_,_,h,_⟩:=hI;exact h
 obtain⟨i0,hi,c3,b9,b8⟩:=qjj Tp.info3p;refine qo4 Tp.x199 rfl h3 ?_ hro;simp only[Tryz.ntmps199,qhn,qh3,qhc,qhk,qii,qhq,qhr,qhC,qkh,qho,qhe]
 gi_wp2
 have bO:=Boxed.new w 29 (.slice none 0 0);have b7:Below w.heap.size w (w.alloc (.cells #[.slice none 0 0] 29)):=(qn2 _ w).alloc (qgA _) _;refine wpIn_rangeFunc_ownG hro h1 (gf:=165) (lb:=#[.pointer (some Bs)]) rfl h5 (enters_of Tp.x165 (by kernel_rfl) rfl)
  (q1A F (n - 1) h5 hro (by omega) Bs w.heap.size sv xs _ (by simp;omega) (by simp) ((b7.cell (p:=⟨Bs,0,none⟩) d5).trans hc) (hI.alloc _)) belowK_t (belowK_b (by simp)) (qn2 _ _) (λ_=>rfl)
  (λpre W=>(∃v,Boxed W w.heap.size 29 v/\W.ownsRow w.heap.size 3 1 v pre.length (pre.map (qhj .i64))/\(v=.slice none 0 0↔pre=[]))/\Below w.heap.size w W)
  (λ_ _ _=>False)
  (OwnFrom.and (Own.from (holdsRow_own w.heap.size w.heap.size 29 3 1 (λpre=>pre.length) (λpre=>pre.map (qhj .i64)) (λpre v=>v=.slice none 0 0↔pre=[])) _) (ownFrom_below (qgA _) (by simp)))
  (λ_ _ _ _ _ hs _ _=>hs)
  ⟨⟨_,bO,qjh _ _ _ _,by simp⟩,b7⟩
  (λx=>{ tmps:=#[.slice none 0 0,.func (.func 165) #[] #[.pointer (some Bs)],.pointer (some w.heap.size),qgD,.slice none 0 0,.int .i64 x,.func (.func 165) #[] #[.pointer (some Bs)],.int .i64 x,qgD,qgD,qgD,qgD,qgD],defers:=[] }) ?assign ?body ?done ?stop
 case assign=>
  intro l x W K hK
  gi_wp2
  exact hK
 case body=>
  rintro l pre x W ⟨⟨v,hv,a6,a8⟩,hB⟩ hlt;have hc:=hv.cell
  gi_wp2_with (gi_at_builtin;refine wpListIn_append_own _ rfl _ _ 29 rfl w.heap.size 3 i0 (.int .i64 0) 1 8 Tp.und29' hi c3 b9 b8 rfl (by decide) _ _ _ rfl (a6.alloc _) ⟨W.heap.size,0,none⟩ 1 1 [.int .i64 x] rfl rfl (cell_one_new _ _ _) (by simp[qjk]) (by simp[qkq];omega) (by omega) (by have:=hB.size;simp;omega) ?_;intro v' w1 a7 a9 _;obtain⟨g',cap',rfl⟩:=ownsRow_succ a7;obtain⟨b0,hv2,c8,c9,b6⟩:=hv.appended (by decide) a6 hB.size (qgA _) a7 a9;have d8:=b0.cell;have d7:=b0.frozen)
  exact⟨c9.from _,b6,⟨_,hv2,by simpa using c8,by simp⟩,hB.trans b6⟩
 case done=>
  rintro D ys W hD rfl ⟨⟨v,hv,a6,a8⟩,hB⟩ hK;have hc:=hv.cell
  gi_wp2
  refine⟨by simp,.inl ⟨_,_,rfl,qnu hK,?_⟩⟩;exact⟨_,results_tmp rfl _ _ _,v,rfl,ownsRow_putObj a6 _ hK rfl,a8,hB.trans (belowK_b (w:=w) (qgA _) W D _ _ (by simp at hD;omega) hK rfl rfl)⟩
 case stop=>
  rintro D c pre W _ _ h _;exact h.elim
theorem q0g(Bs:Nat)(sv:qgB)(xs:List Int)(w:qgx)(a6:Bs<w.heap.size)(hc:w.cell? Bs=some sv)(hI:qf 0 w.heap.size w sv xs) :qhw Ya 199 #[.slice none 0 0,.func (.func 165) #[] #[.pointer (some Bs)]] w λe W'=>∃v,e=.returned v/\W'.ownsRow w.heap.size 3 1 v xs.length (xs.map (qhj .i64))/\(v=.slice none 0 0↔xs=[])/\Below w.heap.size w W' :=
 (qjt (n:=3)).1 (q2B Fence.wide 3 trivial trivial rfl (by omega) Bs sv xs w a6 hc hI)
theorem vO{w w':qgx}(h:Below w.heap.size w w'):w.grownBy w' none:=⟨h.os,h.tape,h.output,h.size,λk hk _=>h.block k hk⟩
theorem qaD{n:Nat}{w:qgx}{v:qgB}{l:List Int}(h:w.ownsRow n 3 1 v l.length (l.map (qhj .i64)))(hl:(l.length:Int)<=1000000):∃base B c,v=.slice base l.length c/\n<=B/\QZ base B w l/\(v=.slice none 0 0\/base≠none):=by
 obtain⟨h1,⟨rfl,h0⟩ | ⟨g,cap,cur,rfl,hb,hg,hc,hm,hs,ht⟩⟩:=h
 ·exact⟨none,n,0,by rw[h0],qgA _,.inr (qim h0),.inl rfl⟩
 ·refine⟨_,g,cap,rfl,hb,.inl ⟨rfl,cur,hg,λi hi=>?_⟩,.inr (by simp)⟩;have h3:(cur.toList.take (l.length*1))[i]?=some (.int .i64 (l[i]?.getD 0)):=by
   rw[ht];simp[qgG hi]
  rw[qm0] at h3;simpa[hi] using h3
theorem QZ.ints{base:Option qi5}{B c n:Nat}{w:qgx}{L:List Int}(h:QZ base B w L)(hn:n<=B)(hl:(L.length:Int)<=1000000):qf n w.heap.size w (.slice base L.length c) L:=by
 rcases h with⟨rfl,cs,h1,h2⟩ | rfl
 ·exact⟨_,c,rfl,hl,λ_=>⟨B,0,cs,(0,0),rfl,hn,(qgy.1 h1).1,h1,λi hi=>by rw[qhf];exact h2 i hi⟩⟩
 ·exact⟨base,c,rfl,hl,λh=>absurd rfl h⟩
theorem q4y(Bs:Nat)(sv:qgB)(xs:List Int)(w:qgx)(a7:Bs<w.heap.size)(hc:w.cell? Bs=some sv)(hI:qf 0 w.heap.size w sv xs) :qhw Ya 163 #[.func (.func 165) #[] #[.pointer (some Bs)]] w λe W'=>∃v,e=.returned v/\W'.ownsRow w.heap.size 3 1 v xs.length (xs.map (qhj .i64))/\(v=.slice none 0 0↔xs=[])/\w.grownBy W' none:=by
 go_enter Tp.x163,Tryz.ntmps163;go_wp2_with (go_at_call 199;refine(q0g Bs sv xs w a7 hc hI).mono ?_;rintro e w2 ⟨v,rfl,hown,a6,hb⟩);go_ret;exact⟨_,rfl,hown,a6,vO hb⟩
theorem q5u(Bs:Nat)(sv:qgB)(xs:List Int)(w:qgx)(b6:Bs<w.heap.size)(hc:w.cell? Bs=some sv)(hI:qf 0 w.heap.size w sv xs)(b7:xs.length<=12) :qhw Ya 134 #[.func (.func 165) #[] #[.pointer (some Bs)]] w λe W'=>∃v,e=.returned v/\qf w.heap.size W'.heap.size W' v (jt xs.length xs)/\(v=.slice none 0 0↔jt xs.length xs=[])/\w.grownBy W' none:=by
 have b0:(xs.length:Int)<=1000000:=by omega
 go_enter Tp.x134,Tryz.ntmps134;go_wp2_with (first
  | (go_at_call 163;refine(q4y Bs sv xs w b6 hc hI).mono ?_;rintro e w2 ⟨v,rfl,hown,a6,hg⟩;obtain⟨base,B,c,rfl,hB,a7,-⟩:=qaD hown b0;have HNB:=qgv a7;have HN:=qgv a6;have HG:=qgv hg;clear hown a7 a6 hg)
  | (go_at_call 164;refine(qfy base B c xs _ HNB.out b7).mono ?_;rintro e w3 ⟨rfl,a9,a8⟩;have HG3:=qgv a9;have HN3:=qgv a8;clear a9 a8))
 go_ret;have h:=QZ.ints (c:=c) HN3.out hB (by rw[xx];omega);rw[xx] at h;refine⟨_,rfl,h,HN.out.trans ⟨λe=>by rw[e];rfl,λe=>?_⟩,HG.out.andThen HG3.out (λj e=>by cases e;exact .inl hB)⟩;have:=xx xs.length xs;rw[e] at this;exact qim this.symm
def ZZ(l ws:List Int):Prop:=∀(Bs:Nat) (sv:qgB) (w:qgx),Bs<w.heap.size->w.cell? Bs=some sv->qf 0 w.heap.size w sv l ->
 qhw Ya 134 #[.func (.func 165) #[] #[.pointer (some Bs)]] w λe W'=>∃v,e=.returned v/\qf w.heap.size W'.heap.size W' v ws/\(v=.slice none 0 0↔ws=[])/\w.grownBy W' none
theorem q81{l:List Int}(a6:l.length<=12):ZZ l (jt l.length l):=λBs sv w h1 h2 h3=>q5u Bs sv l w h1 h2 h3 a6
theorem q80{l:List Int}(a6:l.length<=12)(hs:∀i,i+1<l.length->l[i]?.getD 0<=l[i+1]?.getD 0):ZZ l l:=by
 have:=q81 a6
 rwa [Ke hs _ (qgA _)] at this
end
section
open Go.RowKit
theorem xH{A C E:qgx}{r:Nat}(h:A.grownBy C none)(k:C.grownBy E (some r))(hr:A.heap.size<=r):A.grownBy E none:=h.andThen k (λj e=>by cases e;exact .inl hr)
theorem qfw{ll ws:List Int}{b:Option qi5}{c:Nat}{fE:qib}{ju:Array qgB}{I:List (List Int)->(Nat->Prop)->qgx->Prop}{W:qgx}(cb:Cb W.heap.size ws fE ju I)(e8:ws.length<=1000)(hS:ZZ ll ws)(hI:qf 0 W.heap.size W (.slice b ll.length c) ll){G:Nat->Prop}(h0:I [] G W) :qhw Ya 82 #[.slice b ll.length c,.func (.func fE) #[] ju] W λe W'=>e=.returned (.bool false)/\∃G',I (yt ws 0) G' W':=by
 obtain⟨Lv,a6⟩:∃Lv,Lv=W.heap.size:=⟨_,rfl⟩;obtain⟨W1,a9⟩:∃W1,W1=(W.alloc (.cells #[.slice b ll.length c] 29)).alloc (.cells #[.func (.func fE) #[] ju] 51):=⟨_,rfl⟩;have hg1:W.grownBy W1 none:=by rw[a9];exact(qgw _ _ none).trans (qgw _ _ none)
 have l1:W1.heap[Lv]?=some (.cells #[.slice b ll.length c] 29 (0,0)):=by rw[a9,a6];exact qp (qgF W _)
 have e1:W1.heap[Lv+1]?=some (.cells #[.func (.func fE) #[] ju] 51 (0,0)):=by
  rw[a9];have:=qgF (W.alloc (.cells #[.slice b ll.length c] 29)) (.cells #[.func (.func fE) #[] ju] 51);rw[qh6,<- a6] at this;exact this
 have d6:W1.heap.size=Lv+2:=by rw[a9,qh6,qh6,a6]
 have c1:W1.cell? Lv=some (.slice b ll.length c):=q8 l1 rfl;have z1:=qm (o:=0) l1;have d7:Lv<W1.heap.size:=by omega
 have g6:=qgv ((hI.kept hg1).mono (qgA _) hg1.size);have ⟨HW1,HLv,HS1,HG1,HL1,HE1,HH⟩:=q62 a9 a6 d6 hg1 l1 e1 h0;clear a9 a6 d6 hg1 l1 e1 hI h0;go_enter Tp.x82,Tryz.ntmps82;go_upto_region 1 with(fail);rw[<- HLv.out,<- HW1.out];go_upto_region 2 with(first
  | (go_at_call 135;refine(Z2 _ _ _ _).mono ?_;rintro e w2 ⟨rfl,rfl⟩)
  | (go_at_call 134;refine(hS W1.heap.size (.slice b ll.length c) _ (by simp) (by rw[kL];rfl) ((g6.out.alloc _).mono (qgA _) (by simp))).mono ?_;rintro e w2 ⟨v,rfl,d5,c3,b6⟩;obtain⟨lb,lc,rfl,-,-⟩:=d5.cell;have c2:=(((qgw W1 (.cells #[.slice b ll.length c] 29) none).trans b6).cl c1);have z2:=(((qgw W1 (.cells #[.slice b ll.length c] 29) none).trans b6).frozen_far _ d7 (by simp)).trans z1;have HI2:=qgv d5;have HG2:=qgv ((qgw W1 (.cells #[.slice b ll.length c] 29) none).trans b6);have HN2:=qgv c3;clear d5 c3 b6))
 obtain⟨W4,b8⟩:∃W4,W4=w2.setCell Lv (.slice lb ws.length lc):=⟨_,rfl⟩;rw[<- b8];have a7:=qe w2 Lv 0 (.slice lb ws.length lc);rw[<- b8] at a7;have l4:W4.heap[Lv]?=some (.cells #[.slice lb ws.length lc] 29 (0,0)):=by rw[b8,qg (bk HG2.out HL1.out)];rfl
 have e4:=blk (X:=Lv+1) a7 (by simp) (bk HG2.out HE1.out);have i4:=(HI2.out.kept a7 (λR e=>by cases e;left;rw[qh6];omega)).mono (show W.heap.size<=_ by rw[qh6];have:=HLv.out;omega) a7.size;have g4:W.grownBy W4 none:=xH (HG1.out.trans HG2.out) a7 (by rw[HLv.out];exact qgA _);have ⟨HL4,HE4,HI4,HG4⟩:=zY l4 e4 i4 g4;clear b8 a7 l4 e4 i4 g4 c1 z1 c2 z2;have h8:∀(a:qi5) (fn:Fn) (x y:Array qgB) (m:Mode) (w:qgx),(store a (.func fn x y) m).run Ya w=stored Ya w a (.func fn x y) m:=λa fn x y m w=>run_store _ w a _ m rfl;go_upto_region 4 with(fail);obtain⟨Gp,b9⟩:∃Gp,Gp=W4.heap.size:=⟨_,rfl⟩;obtain⟨W5,b7⟩:∃W5,W5=W4.alloc (.cells #[.func (.func 136) #[] #[.pointer (some (Lv+1:Nat)),.pointer (some Lv),.pointer (some Gp)]] 151):=⟨_,rfl⟩;rw[<- b9,<- b7];have a8:W4.grownBy W5 none:=by rw[b7];exact qgw _ _ none
 have p5:W5.heap[Gp]?=some (.cells #[.func (.func 136) #[] #[.pointer (some (Lv+1:Nat)),.pointer (some Lv),.pointer (some Gp)]] 151 (0,0)):=by rw[b7,b9];exact qgF _ _
 have b0:∀k,W.heap.size<=k->¬ G k:=λk hk h=>by have:=cb.hlt _ _ _ HH.out k h;omega
 have a6:=HLv.out;have e7:W.heap.size<=Gp:=by rw[b9];exact HG4.out.size
 have c9:JR W.heap.size (Lv+1) Lv Gp lb lc ws fE ju G W5:=by
  refine⟨bk a8 HE4.out,bk a8 HL4.out,⟨(HI4.out.kept a8).mono (qgA _) a8.size,λB o n c' e hne hg=>?_⟩,p5,⟨by omega,by omega,e7⟩,b0 _ (by omega),b0 _ (by omega),b0 _ e7⟩;obtain⟨base,cap,e',hl,hr⟩:=HI4.out;cases e';obtain⟨B',o',cs,fr,e1,e2,e3,e4,e5⟩:=hr hne;cases e;cases e1;exact b0 _ e2 hg
 have e6:=cb.hI _ _ _ _ HH.out (HG4.out.trans a8);have ⟨HSA,HI5⟩:=qH c9 e6;have hwl:IntKind.i64.wrap ((ws.length:Int)+1)=((ws.length+1:Nat):Int):=by rw[qhp _ (by omega)];rfl
 have cL:W5.cell? Lv=some (.slice lb ws.length lc):=q8 c9.ls rfl;clear c9 e6 p5 a8 b7 b9 b0 a6;go_wp2;go_loopw [14] (λiv wr=>∃k:Nat,iv=.int .i64 k/\k<=ws.length+1/\∃Gk L,yt ws 0=L++yt ws k/\I L Gk wr/\Bod W.heap.size W.heap.size G Gk W5 wr) (λiv _=>(ws.length+1 - qi9 iv).toNat)
 case atStart=>exact⟨0,rfl,by omega,G,[],rfl,HI5.out,jP (qh1 _ _)⟩
 case round=>
  obtain⟨k,rfl,hk,Gk,L,hL,d9,c8⟩:=hrel;have HSR:=qgv (HSA.out.bod c8);have ⟨HL,HIK,HBK⟩:=z8 hL d9 c8;clear hL d9 c8 cL;have c1:wr.cell? Gp=some (.func (.func 136) #[] #[.pointer (some (Lv+1:Nat)),.pointer (some Lv),.pointer (some Gp)]):=q8 HSR.out.gr rfl;by_cases hlt:k<ws.length+1
  ·have g8:(k:Int)<(ws.length:Int)+1:=by omega
   have g9:IntKind.i64.wrap ((k:Int)+1)=((k+1:Nat):Int):=by rw[qhp _ (by omega)];rfl
   have d8:=qe7 cb e8 k [] 0 none 0 wr Gk L (by simp;omega) (by omega) (by simp) HSR.out ⟨qf.nil _ _ _,λB o n c e=>by cases e⟩ (.inr rfl) (by simp) ⟨_,by rw[HL.out,J7 hlt]⟩ HIK.out;have g7:=qgv d8;clear d8;go_wp2_with (go_at_call 136;refine(g7.out).mono ?_;rintro e w6 ⟨rfl,G6,g5,e9⟩);go_roundw
   case rel=>exact⟨k+1,by simp,by omega,G6,L++zM ws k [] 0,by rw[HL.out,J7 hlt,qjp],g5,HBK.out.trans e9⟩
   case measure=>simp[qi9];omega
  ·obtain rfl:k=ws.length+1:=by omega
   go_wp2;go_ret;exact⟨rfl,Gk,by rw[HL.out,q3g (qgA _),qmD];exact HIK.out⟩
end
section
open Go.RowKit
def q1q(x b:List Int):Bool:=decide (Qm x b<0)
theorem q1p(la ha lb hb:Nat)(va vb:qgB)(a b:List Int)(w:qgx)(hA:qf la ha w va a)(hB:qf lb hb w vb b) :qhw Ya 99 #[va,vb] w λe w'=>e=.returned (.bool (q1q a b))/\w=w':=JM la ha lb hb va vb a b w hA hB
def qgg(L:Nat)(s:Bool)(bv xv:qgB)(a6 x:List Int)(w w':qgx):Prop :=
 w.grownBy w' (some L)/\w'.heap[L]?=some (.cells #[.func (.func 99) #[] #[],if s=true/\q1q x a6=false then bv else xv,.bool true] 108 (0,0))
theorem q7y(L:Nat)(s:Bool)(bv xv:qgB)(a6 x:List Int)(w:qgx)(hL:w.heap[L]?=some (.cells #[.func (.func 99) #[] #[],bv,.bool s] 108 (0,0)))(hb:qf 0 w.heap.size w bv a6)(hx:qf 0 w.heap.size w xv x) :qhw Ya 103 #[.pointer (some L),xv] w λe w'=>e=.returned (.tuple #[])/\qgg L s bv xv a6 x w w':=by
 obtain⟨bb,bc,rfl,-,-⟩:=hb.cell;obtain⟨xb,xc,rfl,-,-⟩:=hx.cell;have c0:w.cell? L=some (.func (.func 99) #[] #[]):=q8 hL rfl;have c1:w.cell? ⟨L,1,none⟩=some (.slice bb a6.length bc):=q8 hL rfl;have c2:w.cell? ⟨L,2,none⟩=some (.bool s):=q8 hL rfl;have z1:w.frozen? ⟨L,1,none⟩=false:=qm hL;have z2:w.frozen? ⟨L,2,none⟩=false:=qm hL;have ⟨HL,HB,HX⟩:=z8 hL hb hx;have SC:=qgv (qhb c0 (qhb c1 c2));clear hL hb hx;go_enter Tp.x103,Tryz.ntmps103;cases s with
 | false=>
  go_wp2_with (fail);go_quiet (fail);go_wp2;go_end0;refine⟨rfl,((qi _ _ _).trans (qe _ _ _ _)).trans (qe _ _ _ _),?_⟩;rw[if_neg (by simp ),qg (show((w.drewN nq).setCell ⟨L,1,none⟩ (.slice xb x.length xc)).heap[L]?=some (.cells #[.func (.func 99) #[] #[],.slice xb x.length xc,.bool false] 108 (0,0)) by rw[qg (show(w.drewN nq).heap[L]?=_ from HL.out)];rfl)];rfl
 | true=>
  cases hl:q1q x a6 with
  | true=>
   have HLL:=qgv hl;clear hl;go_wp2_with (fail);go_quiet (first | (go_at_call 99;refine qiH ((q1p 0 w.heap.size 0 w.heap.size _ _ x a6 _ (HX.out.kept (qi _ _ none)) (HB.out.kept (qi _ _ none))).mono (λe w5 h=>⟨by rw[h.1,HLL.out],h.2.symm⟩))));go_wp2;go_end0;refine⟨rfl,((qi _ _ _).trans (qe _ _ _ _)).trans (qe _ _ _ _),?_⟩;rw[if_neg (by simp[HLL.out]),qg (show((w.drewN nq).setCell ⟨L,1,none⟩ (.slice xb x.length xc)).heap[L]?=some (.cells #[.func (.func 99) #[] #[],.slice xb x.length xc,.bool true] 108 (0,0)) by rw[qg (show(w.drewN nq).heap[L]?=_ from HL.out)];rfl)];rfl
  | false=>
   have HLL:=qgv hl;clear hl;go_wp2_with (fail);go_quiet (first | (go_at_call 99;refine qiH ((q1p 0 w.heap.size 0 w.heap.size _ _ x a6 _ (HX.out.kept (qi _ _ none)) (HB.out.kept (qi _ _ none))).mono (λe w5 h=>⟨by rw[h.1,HLL.out],h.2.symm⟩))));go_wp2;go_end0;refine⟨rfl,(qi _ _ _),?_⟩;rw[if_pos ⟨rfl,HLL.out⟩];exact HL.out
def Kg(l:List Int)(x:Int):Int:=if x∈l then((l.takeWhile λy=>y != x).length:Int) else -1
theorem qfu{l:List Int}{x:Int}{k:Nat}(h:l[k]?=some x)(hb:∀i,i<k->l[i]?≠some x):(l.takeWhile λy=>y != x).length=k:=by
 induction l generalizing k with
 | nil=>simp at h
 | cons a t ih=>
  cases k with
  | zero=>simp at h;subst h;simp
  | succ k=>
   have ha:a≠x:=λe=>hb 0 (by omega) (by simp[e]);rw[qmm (by simpa using ha),qh3,ih (by simpa using h) (λi hi e=>hb (i+1) (by omega) (by simpa using e))]
theorem qbd(b:Option qi5)(c:Nat)(l:List Int)(x:Int)(w:qgx)(b6:(l.length:Int)<=1000000)(hc:l≠[]->∃B o,b=some ⟨B,o,none⟩/\∀i,i<l.length->w.cell? ⟨B,o+i,none⟩=some (.int .i64 (l[i]?.getD 0))):qhw Ya 147 #[.slice b l.length c,x] w λe w'=>e=.returned (.int .i64 (Kg l x))/\w=w':=by
 have HC:=qgv hc;clear hc;go_enter Tp.x147,Tryz.ntmps147;go_wp2;go_loopw [8] (λiv wr=>∃k:Nat,iv=.int .i64 k/\k<=l.length/\(∀i,i<k->l[i]?≠some x)/\w=wr) (λiv _=>(l.length - qi9 iv).toNat)
 case atStart=>exact⟨0,rfl,by omega,λi hi=>by omega,rfl⟩
 case round=>
  obtain⟨k,rfl,hk,a6,rfl⟩:=hrel;have HNO:=qgv a6;clear a6;by_cases hlt:k<l.length
  ·obtain⟨B,o,rfl,a7⟩:=HC.out (by intro e;rw[e] at hlt;simp at hlt);obtain⟨y,hy⟩:∃y,l[k]?=some y:=⟨_,qgG hlt⟩;have x1:=a7 k hlt;rw[hy] at x1;simp only[qgH] at x1;have a9:(k:Int)<(l.length:Int):=by omega
   have HY:=qgv hy;clear a7 hy;by_cases hxy:x=y
   ·subst hxy;have hv:Kg l x=(k:Int):=by
     unfold Kg;rw[if_pos (qhg HY.out),qfu HY.out HNO.out]
    have HV:=qgv hv;clear hv;go_wp2;go_ret;exact⟨by rw[HV.out];rfl,by first | rfl | trivial⟩
   ·have b0:(x == y)=false:=by simpa using hxy
    have a8:=qgv hxy;clear hxy;go_wp2;go_roundw
    case rel=>
     refine⟨k+1,by simp,by omega,λi hi e=>?_,by first | rfl | trivial⟩;by_cases h:i=k
     ·subst h;rw[HY.out] at e;cases e;exact a8.out rfl
     ·exact HNO.out i (by omega) e
    case measure=>simp[qi9];omega
  ·obtain rfl:k=l.length:=by omega
   have hv:Kg l x=-1:=by
    unfold Kg;rw[if_neg];intro hm;obtain⟨i,hi⟩:=qnF hm;exact HNO.out i (qh9.1 hi).1 hi
   have HV:=qgv hv;clear hv;go_wp2;go_ret;exact⟨by rw[HV.out];rfl,by first | rfl | trivial⟩
attribute [local go_sem] q6e q2n
theorem qbE(B o cap:Nat)(ty:qh8)(cs:Array qgB)(fr:Nat × Nat)(l:List Int)(w:qgx)(h3:w.heap[B]?=some (.cells cs ty fr))(h4:∀i,i<l.length->cs[o+i]?=some (.int .i64 (l[i]?.getD 0)))(hl:l.length<=1000) :qhw Ya 84 #[.slice (some ⟨B,o,none⟩) l.length cap] w λe w'=>∃v',e=.returned v'/\w.grownBy w' none/\qf w.heap.size w'.heap.size w' v' l:=by
 obtain⟨i0,b8,b6,b0,a9⟩:=qjj Tp.info3p;by_cases h0:l=[]
 ·subst h0;show qhw Ya 84 #[.slice (some ⟨B,o,none⟩) 0 cap] w _;clear h3 h4 hl;go_enter Tp.x84,qp4;go_wp2_with (at_builtin;(refine qks _ rfl _ _ 29 rfl w.heap.size 3 i0 _ 1 8 Tp.und29' b8 b6 b0 a9 rfl (by decide) (.slice (some w.heap.size) 0 0) 0 [] rfl ⟨rfl,.inr ⟨_,0,#[],rfl,qgA _,qgF _ _,qgA _,by decide,rfl,rfl⟩⟩ ⟨B,o,none⟩ 0 cap [] rfl rfl (by intro j u hu;simp at hu) (by intro u hu;simp at hu) (by decide) (by omega) (by simp) ?_);intro v' w7 a8 a6 _;have HO:=qgv a8;have HG:=qgv a6;clear a8 a6);go_ret;refine⟨_,rfl,(qgw _ _ none).andThen HG.out (λj e=>.inl ?_),Kf (n:=0) (by simpa using HO.out) (by simp) (qgA _)⟩;simp[qhB] at e;omega
 have b7:0<l.length:=ql4.2 h0;have HN:=qgv (show ∀j u,(l.map (qhj .i64))[j]?=some u->cs[o+j]?=some u from λj u hu=>by
  rw[qj7] at hu;cases hj:l[j]? with
  | none=>rw[hj] at hu;cases hu
  | some x=>
   rw[hj] at hu;cases hu;have b9:=(qh9.1 hj).1;have:=h4 j b9;rw[hj] at this;exact this)
 have HB:=qgv h3;clear h4 h3;go_enter Tp.x84,qp4;go_wp2_with (at_builtin;(refine qoh _ (by rfl) _ _ _ (by rfl) w.heap.size 3 i0 _ 1 8 Tp.und29' b8 b6 b0 a9 rfl (by omega) (.slice (some w.heap.size) 0 0) 0 [] (by rfl) ⟨by simp,.inr ⟨w.heap.size,0,#[],rfl,by omega,qgF w _,by omega,by unfold qkq;omega,by simp,by simp⟩⟩ ⟨B,o,none⟩ l.length cap (l.map (qhj .i64)) (by rfl) (by simp) (λj u hu=>yg (q8 (qp HB.out) (HN.out j u hu))) (by intro u hu;simp at hu;obtain⟨x,_,rfl⟩:=hu;rfl) b7 (by unfold qkq;omega) (by omega) (by simp) (w.heap.size+1) (by simp) ?_);intro gg c3 w5 a7 a6 c8 hgl;have HG:=qgv a6;have HO:=qgv a7;clear a6 a7);go_ret;refine⟨_,rfl,(qgw _ _ none).andThen HG.out (λj e=>.inl ?_),Kf (n:=0+l.length) (by simpa using HO.out) (by omega) (qgA _)⟩;simp[qhB] at e;omega
def zl(s:List Int):List Int:=s.takeWhile λy=>y != -1
theorem q8q{s:List Int}(h:s.length=5):∃a b c d e,s=[a,b,c,d,e]:=by
 rcases s with _ | ⟨a0,_ | ⟨a1,_ | ⟨a2,_ | ⟨a3,_ | ⟨a4,_ | ⟨a5,t⟩⟩⟩⟩⟩⟩<;>simp at h;exact⟨a0,a1,a2,a3,a4,rfl⟩
theorem q6w(s:List Int)(p:Int->Bool):s.take (s.takeWhile p).length=s.takeWhile p:=by
 induction s with
 | nil=>rfl
 | cons a t ih=>
  by_cases h:p a=true
  ·rw[qmm h,qh3,List.take_succ_cons,ih]
  ·rw[List.takeWhile_cons_of_neg h];rfl
theorem q0l(s:List Int)(p:Int->Bool):(s.takeWhile p).length<=s.length:=by
 rw[<- q6w s p,qjz];omega
theorem qek{s:List Int}{x:Int}(h:x∉s):s.takeWhile (λy=>y != x)=s:=by
 induction s with
 | nil=>rfl
 | cons a t ih=>
  rw[qmm (by simp at h ⊢;exact λe=>h.1 e.symm),ih (by simp at h;exact h.2)]
theorem qb5(s:List Int)(h5:s.length=5)(w:qgx):qhw Ya 113 #[A5 s] w λe w'=>∃v,e=.returned v/\w.grownBy w' none/\qf w.heap.size w'.heap.size w' v (zl s):=by
 obtain⟨Bx,b0⟩:∃Bx,Bx=w.heap.size:=⟨_,rfl⟩;obtain⟨w1,a6⟩:∃w1,w1=w.alloc (.cells (s.map (qhj .i64)).toArray 118):=⟨_,rfl⟩;have hg1:w.grownBy w1 none:=by rw[a6];exact qgw _ _ none
 have hb1:w1.heap[Bx]?=some (.cells (s.map (qhj .i64)).toArray 118 (0,0)):=by rw[a6,b0];exact qgF _ _
 have hcl:∀i,i<s.length->(s.map (qhj .i64)).toArray[i]?=some (.int .i64 (s[i]?.getD 0)):=λi hi=>by simp[hi]
 have b6:∀w2,w1.grownBy w2 none->qhw Ya 147 #[.slice (some Bx) 5 5,.int .i64 (-1)] w2 λe w'=>e=.returned (.int .i64 (Kg s (-1)))/\w2=w':=λw2 h=>by
  have:=qbd (some ⟨Bx,0,none⟩) 5 s (-1) w2 (by omega) (λ_=>⟨Bx,0,rfl,λi hi=>q8 (bk h hb1) (by rw[qhf];exact hcl i hi)⟩)
  rwa [h5] at this
 obtain⟨n,hn⟩:∃n,n=(zl s).length:=⟨_,rfl⟩;have hns:n<=5:=by rw[hn];have:=q0l s (λy=>y != -1);unfold zl;omega
 have b7:∀w2,w1.grownBy w2 none->qhw Ya 84 #[.slice (some Bx) n 5] w2 λe w'=>∃v',e=.returned v'/\w2.grownBy w' none/\qf w2.heap.size w'.heap.size w' v' (zl s):=λw2 h=>by
  rw[hn];refine qbE Bx 0 5 118 _ (0,0) (zl s) w2 (bk h hb1) (λi hi=>?_) (by omega);rw[qhf,hcl i (by omega)];unfold zl;rw[<- q6w s (λy=>y != -1),qiz (by unfold zl at hi;exact hi)]
 have a7:(Kg s (-1)=(n:Int)/\(-1:Int)∈s)\/(Kg s (-1)=-1/\n=5):=by
  by_cases hm:(-1:Int)∈s
  ·left;refine⟨?_,hm⟩;unfold Kg;rw[if_pos hm,hn];rfl
  ·right;refine⟨by unfold Kg;rw[if_neg hm],?_⟩;rw[hn];unfold zl;rw[qek hm,h5]
 have ⟨HIX,HCN,HG1,HW1,HBX⟩:=ZS b6 b7 hg1 a6 b0;clear b6 b7 hg1 hb1 a6 b0 hcl hn;generalize Kg s (-1)=ix at a7 HIX;have hA:A5 s=.agg (s.map (qhj .i64)).toArray:=rfl;rw[hA];clear hA;obtain⟨a0,a1,a2,a3,a4,rfl⟩:=q8q h5;rcases a7 with⟨rfl,-⟩ | ⟨rfl,rfl⟩
 ·go_enter Tp.x113,Tryz.ntmps113;go_upto_region 1 with(fail);rw[<- HBX.out,show w.alloc (.cells #[a0,a1,a2,a3,a4] 118)=w1 from HW1.out.symm];have hni:(0:Int)<=(n:Int):=by omega
  have b8:(n:Int)<=5:=by omega
  go_wp2_with (first
   | (go_at_call 147;refine(HIX.out _ (qh1 _ _)).mono ?_;rintro e w2 ⟨rfl,rfl⟩)
   | (go_at_call 84;refine(HCN.out _ (qh1 _ _)).mono ?_;rintro e w3 ⟨v,rfl,a8,a9⟩))
  go_ret;exact⟨_,rfl,HG1.out.trans a8,a9.mono HG1.out.size (qgA _)⟩
 ·go_enter Tp.x113,Tryz.ntmps113;go_upto_region 1 with(fail);rw[<- HBX.out,show w.alloc (.cells #[a0,a1,a2,a3,a4] 118)=w1 from HW1.out.symm];go_wp2_with (first
   | (go_at_call 147;refine(HIX.out _ (qh1 _ _)).mono ?_;rintro e w2 ⟨rfl,rfl⟩)
   | (go_at_call 84;refine(HCN.out _ (qh1 _ _)).mono ?_;rintro e w3 ⟨v,rfl,a8,a9⟩))
  go_ret;exact⟨_,rfl,HG1.out.trans a8,a9.mono HG1.out.size (qgA _)⟩
def zR(l:List Int):List Int:=l++qr6 (5 - l.length) (-1)
theorem Z9{l:List Int}(h:l.length<=5):(zR l).length=5:=by simp[zR];omega
theorem Ju(lo hi:Nat)(v:qgB)(l:List Int)(w:qgx)(hI:qf lo hi w v l)(hl:l.length<=5):qhw Ya 112 #[v] w λe w'=>e=.returned (A5 (zR l))/\w.grownBy w' none:=by
 obtain⟨b,c,rfl,d9,hc⟩:=hI.cell;have HC:=qgv hc;have hsz:(Ya.info? 3).map (·.size)=some 1:=by kernel_rfl
 obtain⟨R,hR⟩:∃R,R=w.heap.size:=⟨_,rfl⟩;clear hc hI;go_enter Tp.x112,Tryz.ntmps112;go_upto_region 2 with(fail);obtain⟨w1,a9⟩:∃w1,w1=w.alloc (.cells #[.int .i64 0,.int .i64 0,.int .i64 0,.int .i64 0,.int .i64 0] 118):=⟨_,rfl⟩;obtain⟨w2,a8⟩:∃w2,w2=w1.alloc (.cells #[.int .i64 (-1),.int .i64 (-1),.int .i64 (-1),.int .i64 (-1),.int .i64 (-1)] 118):=⟨_,rfl⟩;rw[<- hR,show(w.alloc (.cells #[.int .i64 0,.int .i64 0,.int .i64 0,.int .i64 0,.int .i64 0] 118)).alloc (.cells #[.int .i64 (-1),.int .i64 (-1),.int .i64 (-1),.int .i64 (-1),.int .i64 (-1)] 118)=w2 by rw[a8,a9]];have b7:w1.heap.size=R+1:=by rw[a9,qh6,hR]
 have b9:w2.heap.size=R+2:=by rw[a8,qh6,b7]
 have hg1:w.grownBy w1 none:=by rw[a9];exact qgw _ _ none
 have b8:w1.grownBy w2 none:=by rw[a8];exact qgw _ _ none
 have c9:w1.heap[R]?=some (.cells #[.int .i64 0,.int .i64 0,.int .i64 0,.int .i64 0,.int .i64 0] 118 (0,0)):=by rw[a9,hR];exact qgF _ _
 have d5:w2.heap[R+1]?=some (.cells ([.int .i64 (-1),.int .i64 (-1),.int .i64 (-1),.int .i64 (-1),.int .i64 (-1)]:List qgB).toArray 118 (0,0)):=by rw[a8,<- b7];exact qgF _ _
 have c8:=bk b8 c9;have ⟨HB2,HR2⟩:=qH d5 c8;have HG2:=qgv (hg1.trans b8);have ⟨HS2,HR⟩:=qH b9 hR;clear a9 a8 b7 hg1 b8 c9 d5 c8 b9 hR;have d6:=HR2.out;obtain⟨w4,e6,a7,b0⟩:∃w4,(qoo #[29,29] 3 #[.slice (some (R+1:Nat)) 5 5,.slice b l.length c]).run Ya w2=.ok (goInt l.length) w4/\w4.heap[R+1]?=some (.cells ((zR l).map (qhj .i64)).toArray 118 (0,0))/\Below (R+1) w2 w4:=by
  by_cases h0:l=[]
  ·subst h0;exact⟨w2,run_copy_none (P:=Ya) w2 29 29 3 3 _ _ 5 5 0 c Tp.und29' hsz rfl,by rw[HB2.out];rfl,qn2 _ _⟩
  ·obtain⟨B,o,rfl,-,e7,-,hcell⟩:=HC.out h0;have hr:=run_copy_row (P:=Ya) w2 29 29 3 3 (R+1) 0 5 5 ⟨B,o,none⟩ l.length c _ 118 (l.map (qhj .i64)) Tp.und29' hsz HB2.out (by rw[qkw];show l.length=min l.length 5;omega) (λj v hj=>by
    rw[qj7] at hj;cases hx:l[j]? with
    | none=>rw[hx] at hj;cases hj
    | some x=>
     rw[hx] at hj;cases hj;have h1:=hcell j (qh9.1 hx).1;rw[hx] at h1;exact yg (HG2.out.cl h1)) (by simp;omega) (by intro u hu;simp at hu;obtain⟨x,_,rfl⟩:=hu;rfl)
   rw[qkw] at hr;refine⟨_,hr,?_,below_setRow (qn2 _ _) (qgA _) _⟩;rw[setRow_heap w2 (R+1) _ _ 118 _ HB2.out];unfold zR;have:∀k,k<=5->([.int .i64 (-1),.int .i64 (-1),.int .i64 (-1),.int .i64 (-1),.int .i64 (-1)]:List qgB).drop k=(qr6 (5 - k) (-1)).map (qhj .i64):=by
    intro k hk;obtain rfl | rfl | rfl | rfl | rfl | rfl:k=0\/k=1\/k=2\/k=3\/k=4\/k=5:=by omega
    all_goals rfl
   simp[this _ hl]
 obtain⟨a0,a1,a2,a3,a4,e5⟩:=q8q (Z9 hl);rw[e5] at a7;have E5:=qgv e5;have a6:=(b0.block R (by omega)).trans HR2.out;have c0:=q8 a7 (o:=0) rfl;have c1:=q8 a7 (o:=1) rfl;have c2:=q8 a7 (o:=2) rfl;have c3:=q8 a7 (o:=3) rfl;have c4:=q8 a7 (o:=4) rfl;have d0:=q8 a6 (o:=0) rfl;have d1:=q8 a6 (o:=1) rfl;have d2:=q8 a6 (o:=2) rfl;have d3:=q8 a6 (o:=3) rfl;have d4:=q8 a6 (o:=4) rfl;have z0:=qm a6 (o:=0);have z1:=qm a6 (o:=1);have z2:=qm a6 (o:=2);have z3:=qm a6 (o:=3);have z4:=qm a6 (o:=4);have ⟨HR4,HBE⟩:=qH a6 b0;clear a6 b0 e5 d6;go_wp2;obtain⟨wf,b6⟩:∃wf,wf=((((w4.setCell R (.int .i64 a0)).setCell ⟨R,1,none⟩ (.int .i64 a1)).setCell ⟨R,2,none⟩ (.int .i64 a2)).setCell ⟨R,3,none⟩ (.int .i64 a3)).setCell ⟨R,4,none⟩ (.int .i64 a4):=⟨_,rfl⟩;rw[<- b6];have hrf:wf.heap[R]?=some (.cells #[a0,a1,a2,a3,a4] 118 (0,0)):=by
  rw[b6,qg (qg (qg (qg (qg HR4.out))))];rfl
 have d8:w.grownBy w4 none:=⟨HBE.out.os.trans HG2.out.os,HBE.out.tape.trans HG2.out.tape,HBE.out.output.trans HG2.out.output,qh0 HG2.out.size HBE.out.size,λk hk _=>(HBE.out.block k (by have:=HR.out;omega)).trans (HG2.out.block k hk (by simp))⟩;have d7:w.grownBy wf none:=by
  rw[b6];have h:=HR.out;exact xH (xH (xH (xH (xH d8 (qe _ _ _ _) (by omega)) (qe _ _ _ _) (by omega)) (qe _ _ _ _) (by omega)) (qe _ _ _ _) (by omega)) (qe _ _ _ _) (by omega)
 have e0:=q8 hrf (o:=0) rfl;have e1:=q8 hrf (o:=1) rfl;have e2:=q8 hrf (o:=2) rfl;have e3:=q8 hrf (o:=3) rfl;have e4:=q8 hrf (o:=4) rfl;refine qj8 (v:=A5 (zR l)) ?_ rfl ⟨rfl,d7⟩;rw[E5.out];simp[qjb,Tryz.results112,go_sem,qhs,hrf,A5]
end
section
open Go.RowKit
structure vW where
 Bl:Nat
 By:Nat
 Bn:Nat
 Bu:Nat
 Bg:Nat
 Bp:Nat
 n1:Nat
 l:Nat
 ws:List Int
 lb:Option qi5
 lc:Nat
 J:List (List Int × qgB)->(Nat->Prop)->qgx->Prop
 Jx:List (List Int × qgB)->(Nat->Prop)->qgx->Prop
 T:List (List Int)
def Pfx(X:vW)(pre:List (List Int × qgB))(L:List (List Int)):Prop:=∃t,X.T=pre.map ql5++(L++t)
def xpI(x:List Int × qgB)(A:qgx):Prop:=qf 0 A.heap.size A x.2 x.1
def xpO(ws:List Int)(x:List Int × qgB)(A:qgx):Prop:=xpI x A/\x.1.length=ws.length/\x.1.Nodup/\(∀y∈x.1,y∈ws)/\(x.1≠[]\/x.2=.slice none 0 0)
structure JT(X:vW):Prop where
 hlt:∀s G A,X.J s G A->∀k,G k->k<A.heap.size
 bl:X.Bl<X.n1
 b1:X.n1<=X.By
 b2:X.By<X.Bn
 b3:X.Bn<X.Bu
 b4:X.Bu<X.Bg
 b5:X.Bg<X.Bp
 hJ:∀s G A C,X.J s G A->Stp X.n1 X.Bl G A C->X.J s G C
 hJx:∀s G A C,X.Jx s G A->Stp X.n1 X.Bl G A C->X.Jx s G C
 five:∀x∈X.ws,0<=x/\x<5
 nd:X.ws.Nodup
 len:X.ws.length<=5
 hY:∀m pre G x A,X.J pre G A->xpO X.ws x A->Pfx X pre [x.1]->YieldAt Fence.wide m Ya X.l #[x.2] A λe C=>
   ∃G',(e=.returned (.bool true)/\X.J (pre++[x]) G' C/\Bod X.n1 X.Bl G G' A C)\/(e=.returned (.bool false)/\X.Jx (pre++[x]) G' C/\Bod X.n1 X.Bl G G' A C)
def ptA(b:Nat):qgB:=.pointer (some b)
structure It3(X:vW)(p:List Int)(G:Nat->Prop)(W:qgx)(lb:Option qi5)(lc:Nat)(nv:qgB):Prop where
 ls:W.heap[X.Bl]?=some (.cells #[.slice lb X.ws.length lc] 29 (0,0))
 li:qf X.n1 W.heap.size W (.slice lb X.ws.length lc) X.ws
 lf:∀B o,lb=some ⟨B,o,none⟩->X.ws≠[]->¬ G B
 yl:W.heap[X.By]?=some (.cells #[.func (.yield X.l) #[] #[]] 51 (0,0))
 us:W.heap[X.Bu]?=some (.cells #[.int .u8 (zc p:Nat)] 130 (0,0))
 gr:W.heap[X.Bg]?=some (.cells #[.func (.func 154) #[] #[ptA X.Bn,ptA X.Bl,ptA X.By,ptA X.Bu,ptA X.Bp]] 31 (0,0))
 pu:W.heap[X.Bp]?=some (.cells #[.func (.func 150) #[] #[ptA X.Bn,ptA X.Bu,ptA X.Bg]] 82 (0,0))
 nw:W.heap[X.Bn]?=some (.cells #[nv] 29 (0,0))
 no:W.ownsRow X.n1 3 1 nv p.length (p.map (qhj .i64))
 nr:∀g,nv.ownBlock=some g->¬ G g/\∀B o,lb=some ⟨B,o,none⟩->X.ws≠[]->B≠g
 nn:p=[]->X.ws=[]->nv=.slice none 0 0
 nf:¬ G X.Bl/\¬ G X.By/\¬ G X.Bn/\¬ G X.Bu/\¬ G X.Bg/\¬ G X.Bp
def q2D(X:vW)(p:List Int)(G:Nat->Prop)(W:qgx):Prop:=∃nv,It3 X p G W X.lb X.lc nv
def zv(ws:List Int):Nat->List Int->List (List Int)
 | 0,p=>[p]
 | m+1,p=>ws.flatMap λn=>if n∈p then[] else zv ws m (p++[n])
def qce(X:vW)(W:qgx)(k:Nat):Prop:=∃v ty fr,W.heap[X.Bn]?=some (.cells #[v] ty fr)/\v.ownBlock=some k
structure ItR(X:vW)(G G':Nat->Prop)(A C:qgx):Prop where
 tape:C.tape=A.tape
 size:A.heap.size<=C.heap.size
 keep:∀k,k<A.heap.size->(X.n1<=k\/k=X.Bl)->¬ G k->k≠X.Bn->k≠X.Bu->¬ qce X A k->C.heap[k]?=A.heap[k]?
 fp:∀k,G' k->G k\/A.heap.size<=k
 row:∀k,qce X C k->qce X A k\/A.heap.size<=k
theorem ItR.refl(X:vW)(G:Nat->Prop)(A:qgx):ItR X G G A A:=⟨rfl,qgA _,λ_ _ _ _ _ _ _=>rfl,λ_ h=>.inl h,λ_ h=>.inl h⟩
theorem ItR.trans{X:vW}{G G' a6:Nat->Prop}{A C E:qgx}(h:ItR X G G' A C)(k:ItR X G' a6 C E):ItR X G a6 A E :=
 ⟨k.tape.trans h.tape,qh0 h.size k.size,λj hj hn hf h1 h2 h3=>(k.keep j (qh7 hj h.size) hn (λe=>(h.fp j e).elim hf (by omega)) h1 h2 (λe=>(h.row j e).elim h3 (by omega))).trans (h.keep j hj hn hf h1 h2 h3),
  λj hj=>(k.fp j hj).elim (h.fp j) (λe=>.inr (qh0 h.size e)),λj hj=>(k.row j hj).elim (h.row j) (λe=>.inr (qh0 h.size e))⟩
def RgB(X:vW)(p:List Int)(L:List (List Int))(pre:List (List Int × qgB))(G:Nat->Prop)(W:qgx)(b:Bool)(W':qgx):Prop :=
 ∃G',q2D X p G' W'/\ItR X G G' W W'/\(if b=true then ∃xs,xs.map ql5=L/\X.J (pre++xs) G' W' else ∃xs t,L=xs.map ql5++t/\X.Jx (pre++xs) G' W')
def Rg(X:vW)(p:List Int)(L:List (List Int))(pre:List (List Int × qgB))(G:Nat->Prop)(W:qgx)(e:Ending)(W':qgx):Prop:=∃b,e=.returned (.bool b)/\RgB X p L pre G W b W'
theorem qx{w:qgx}{k:Nat}{o:Obj}(h:w.heap[k]?=some o):k<w.heap.size:=(qgy.1 h).1
theorem kj{w:qgx}{b n:Nat}{v:qgB}{xs:List qgB}(h:w.ownsRow b 3 1 v n xs){g:Nat}(hg:v.ownBlock=some g):b<=g/\∃cs,w.heap[g]?=some (.cells cs 3 (0,0)):=by
 rcases h.2 with⟨rfl,_⟩ | ⟨g',cap,cur,rfl,hb,hgb,_⟩
 ·simp[qhB] at hg
 ·obtain rfl:g'=g:=by simpa[qhB] using hg
  exact⟨hb,_,hgb⟩
theorem Jm{lo:Nat}{A C:qgx}{lb:Option qi5}{n lc:Nat}{l:List Int}(h:qf lo A.heap.size A (.slice lb n lc) l)(hs:A.heap.size<=C.heap.size)(hk:∀B o,lb=some ⟨B,o,none⟩->l≠[]->C.heap[B]?=A.heap[B]?):qf lo C.heap.size C (.slice lb n lc) l:=by
 obtain⟨base,cap,e,hl,hr⟩:=h;refine⟨base,cap,e,hl,λhne=>?_⟩;obtain⟨B,o,cs,fr,e1,e2,e3,e4,e5⟩:=hr hne;cases e;exact⟨B,o,cs,fr,e1,e2,by omega,(hk B o e1 hne).trans e4,e5⟩
theorem YQ{lo:Nat}{A C:qgx}{v:qgB}{n:Nat}{xs:List qgB}(h:A.ownsRow lo 3 1 v n xs)(hk:∀g,v.ownBlock=some g->C.heap[g]?=A.heap[g]?):C.ownsRow lo 3 1 v n xs:=by
 obtain⟨h1,h2⟩:=h;refine⟨h1,?_⟩;rcases h2 with h2 | ⟨g,cap,cur,rfl,hb,hg,hr⟩
 ·exact .inl h2
 ·exact .inr ⟨g,cap,cur,rfl,hb,(hk g (by simp[qhB])).trans hg,hr⟩
theorem K8{X:vW}{p:List Int}{G:Nat->Prop}{W:qgx}{lb:Option qi5}{lc:Nat}{nv:qgB}(h:It3 X p G W lb lc nv){B o:Nat}(e:lb=some ⟨B,o,none⟩)(hne:X.ws≠[]):X.n1<=B/\B<W.heap.size/\∃cs fr,W.heap[B]?=some (.cells cs 3 fr):=by
 obtain⟨base,cap,e',hl,hr⟩:=h.li;cases e';obtain⟨B',o',cs,fr,e1,e2,e3,e4,e5⟩:=hr hne;rw[e] at e1;cases e1;exact⟨e2,e3,cs,fr,e4⟩
theorem It3.body{X:vW}(O:JT X){p:List Int}{G G':Nat->Prop}{A C:qgx}{lb:Option qi5}{lc:Nat}{nv:qgB}(h:It3 X p G A lb lc nv)(hb:Bod X.n1 X.Bl G G' A C):It3 X p G' C lb lc nv/\ItR X G G' A C:=by
 have h1:=O.b1;have h2:=O.b2;have h3:=O.b3;have h4:=O.b4;have h5:=O.b5;have a6:∀k,k<A.heap.size->¬ G k->¬ G' k:=λk hk hf e=>(hb.fp k e).elim hf (by omega);have sl:=hb.keep _ (qx h.ls) (.inr rfl) h.nf.1;have sy:=hb.keep _ (qx h.yl) (.inl h1) h.nf.2.1;have sn:=hb.keep _ (qx h.nw) (.inl (by omega)) h.nf.2.2.1;have su:=hb.keep _ (qx h.us) (.inl (by omega)) h.nf.2.2.2.1;have sg:=hb.keep _ (qx h.gr) (.inl (by omega)) h.nf.2.2.2.2.1;have sp:=hb.keep _ (qx h.pu) (.inl (by omega)) h.nf.2.2.2.2.2;refine⟨⟨sl.trans h.ls,Jm h.li hb.size λB o e hne=>?_,λB o e hne=>?_,sy.trans h.yl,su.trans h.us,sg.trans h.gr,sp.trans h.pu,sn.trans h.nw,YQ h.no λg e=>?_,λg e=>⟨?_,(h.nr g e).2⟩,h.nn,
  a6 _ (qx h.ls) h.nf.1,a6 _ (qx h.yl) h.nf.2.1,a6 _ (qx h.nw) h.nf.2.2.1,a6 _ (qx h.us) h.nf.2.2.2.1,a6 _ (qx h.gr) h.nf.2.2.2.2.1,a6 _ (qx h.pu) h.nf.2.2.2.2.2⟩,
  hb.tape,hb.size,λk hk hn hf _ _ _=>hb.keep k hk hn hf,hb.fp,λk hk=>?_⟩
 ·obtain⟨b1,b2,_⟩:=K8 h e hne;exact hb.keep B b2 (.inl b1) (h.lf B o e hne)
 ·obtain⟨b1,b2,_⟩:=K8 h e hne;exact a6 B b2 (h.lf B o e hne)
 ·obtain⟨b1,cs,b2⟩:=kj h.no e;exact hb.keep g (qx b2) (.inl b1) (h.nr g e).1
 ·obtain⟨b1,cs,b2⟩:=kj h.no e;exact a6 g (qx b2) (h.nr g e).1
 ·obtain⟨v,ty,fr,e1,e2⟩:=hk;rw[sn] at e1;exact .inl ⟨v,ty,fr,e1,e2⟩
theorem It3.push{X:vW}(O:JT X){p:List Int}{G:Nat->Prop}{A E C:qgx}{lb:Option qi5}{lc:Nat}{nv:qgB}(h:It3 X p G A lb lc nv)(a9:∀k,G k->k<A.heap.size){n:Int}{g' cap:Nat}(hE:A.grownBy E nv.ownBlock)(hown:E.ownsRow X.n1 3 1 (.slice (some g') (p.length+1) cap) (p.length+1) (p.map (qhj .i64)++[.int .i64 n]))(hg:nv.ownBlock=some g'\/A.heap.size<=g')(b7:C.os=E.os)(a8:C.tape=E.tape)(hout:C.output=E.output)(hC:C.heap=((E.setCell X.Bn (.slice (some g') (p.length+1) cap)).setCell X.Bu (.int .u8 (zc (p++[n]):Nat))).heap) :It3 X (p++[n]) G C lb lc (.slice (some g') (p.length+1) cap)/\Stp X.n1 X.Bl G A C/\ItR X G G A C/\∀k,k≠X.Bn->k≠X.Bu->C.heap[k]?=E.heap[k]?:=by
 have h1:=O.b1;have h2:=O.b2;have h3:=O.b3;have h4:=O.b4;have h5:=O.b5;have h0:=O.bl;have a7:∀{k:Nat} {o:Obj},A.heap[k]?=some o->(∀cs,o≠.cells cs 3 (0,0))->some k≠nv.ownBlock:=λ{k o} hk b8 e=>by
  obtain⟨_,cs,e2⟩:=kj h.no e.symm;rw[hk] at e2;exact b8 cs (qjF e2)
 have el:=(hE.block _ (qx h.ls) (a7 h.ls (λcs e=>by cases e))).trans h.ls;have ey:=(hE.block _ (qx h.yl) (a7 h.yl (λcs e=>by cases e))).trans h.yl;have en:=(hE.block _ (qx h.nw) (a7 h.nw (λcs e=>by cases e))).trans h.nw;have eu:=(hE.block _ (qx h.us) (a7 h.us (λcs e=>by cases e))).trans h.us;have eg:=(hE.block _ (qx h.gr) (a7 h.gr (λcs e=>by cases e))).trans h.gr;have ep:=(hE.block _ (qx h.pu) (a7 h.pu (λcs e=>by cases e))).trans h.pu;have a6:∀k,k≠X.Bn->k≠X.Bu->C.heap[k]?=E.heap[k]?:=λk k1 k2=>by
  rw[hC];exact(qie _ _ _ k (λe=>k2 e)).trans (qie _ _ _ k (λe=>k1 e))
 have cn:C.heap[X.Bn]?=some (.cells #[.slice (some g') (p.length+1) cap] 29 (0,0)):=by
  rw[hC,qie _ _ _ X.Bn (λe=>by have e':X.Bn=X.Bu:=e;omega),qg en];rfl
 have b9:(E.setCell X.Bn (.slice (some g') (p.length+1) cap)).heap[X.Bu]?=some (.cells #[.int .u8 (zc p:Nat)] 130 (0,0)):=(qie _ _ _ X.Bu (λe=>by have e':X.Bu=X.Bn:=e;omega)).trans eu;have cu:C.heap[X.Bu]?=some (.cells #[.int .u8 (zc (p++[n]):Nat)] 130 (0,0)):=by
  rw[hC,qg b9];rfl
 have hsz:C.heap.size=E.heap.size:=by rw[hC];simp[qjc]
 have hst:Stp X.n1 X.Bl G A C:=⟨b7.trans hE.os,a8.trans hE.tape,hout.trans hE.output,by rw[hsz];exact hE.size,λk hk hc=>by
  have k1:k≠X.Bn:=by rintro rfl;exact hc.elim (λhc=>by omega) h.nf.2.2.1
  have k2:k≠X.Bu:=by rintro rfl;exact hc.elim (λhc=>by omega) h.nf.2.2.2.1
  rw[a6 k k1 k2];refine hE.block k hk λe=>?_;obtain⟨b1,_⟩:=kj h.no e.symm;rcases hc with hc | hc
  ·omega
  ·exact(h.nr k e.symm).1 hc⟩
 have b6:X.n1<=g'/\∃cs,E.heap[g']?=some (.cells cs 3 (0,0)):=kj hown (by simp[qhB]);obtain⟨c3,c8,b0⟩:=b6;have hne:∀{k:Nat} {cs:Array qgB} {ty:qh8},E.heap[k]?=some (.cells cs ty (0,0))->ty≠3->g'≠k:=λ{k cs ty} hk ht e=>by
  rw[<- e,b0] at hk;cases hk;exact ht rfl
 have gn:=hne en (by decide);have gu:=hne eu (by decide);refine⟨⟨(a6 _ (by omega) (by omega)).trans el,Jm h.li (by rw[hsz];exact hE.size) λB o e hw=>?_,h.lf,(a6 _ (by omega) (by omega)).trans ey,cu,(a6 _ (by omega) (by omega)).trans eg,(a6 _ (by omega) (by omega)).trans ep,cn,?_,λg e=>?_,λe=>by simp at e,
  h.nf⟩,hst,
  ⟨a8.trans hE.tape,by rw[hsz];exact hE.size,λk hk hn hf k1 k2 k3=>?_,λk hk=>.inl hk,λk hk=>?_⟩,a6⟩
 ·obtain⟨b1,b2,cs,fr,b3⟩:=K8 h e hw;rw[a6 B (λe=>?_) (λe=>?_)]
  ·exact hE.block B b2 λe'=>(h.nr B e'.symm).2 B o e hw rfl
  ·subst e;rw[h.nw] at b3;cases b3
  ·subst e;rw[h.us] at b3;cases b3
 ·rw[qio,qji];exact YQ hown λg e=>a6 g (by
   obtain rfl:g'=g:=by simpa[qhB] using e
   exact gn) (by
   obtain rfl:g'=g:=by simpa[qhB] using e
   exact gu)
 ·obtain rfl:g'=g:=by simpa[qhB] using e
  refine⟨λhf=>?_,λB o e hw e2=>?_⟩
  ·rcases hg with hg | hg
   ·exact(h.nr _ hg).1 hf
   ·exact absurd (a9 _ hf) (by omega)
  ·obtain⟨b1,b2,_⟩:=K8 h e hw;rcases hg with hg | hg
   ·exact(h.nr _ hg).2 B o e hw e2
   ·omega
 ·rw[a6 k k1 k2];exact hE.block k hk λe=>k3 ⟨nv,_,_,h.nw,e.symm⟩
 ·obtain⟨v,ty,fr,e1,e2⟩:=hk;rw[cn] at e1;cases e1;obtain rfl:g'=k:=by simpa[qhB] using e2
  rcases hg with hg | hg
  ·exact .inl ⟨nv,_,_,h.nw,hg⟩
  ·exact .inr hg
theorem q3y{w:qgx}{b k:Nat}{v:qgB}{xs:List qgB}{y:qgB}(h:w.ownsRow b 3 1 v (k+1) (xs++[y])):∃g cap,v=.slice (some ⟨g,0,none⟩) (k+1) cap/\k+1<=cap/\w.ownsRow b 3 1 (.slice (some ⟨g,0,none⟩) k cap) k xs:=by
 obtain⟨h1,h2⟩:=h;rcases h2 with⟨_,h0⟩ | ⟨g,cap,cur,rfl,hb,hg,hc,hm,hs,ht⟩
 ·omega
 ·have hk:xs.length=k:=by simp at h1;omega
  refine⟨g,cap,rfl,hc,by simpa using hk,.inr ⟨g,cap,cur,rfl,hb,hg,by omega,hm,hs,?_⟩⟩;have:=congrArg (List.take (k*1)) ht;rw[List.take_take,qp9 (by omega)] at this;rw[this,List.take_left' (by omega)]
theorem It3.pop{X:vW}(O:JT X)(a8:X.ws≠[]){p:List Int}{G:Nat->Prop}{A C:qgx}{lb:Option qi5}{lc:Nat}{g cap:Nat}{n:Int}(h:It3 X (p++[n]) G A lb lc (.slice (some g) (p.length+1) cap))(hC:Popped X.Bn X.Bu (some ⟨g,0,none⟩) p.length cap (zc p) A C) :It3 X p G C lb lc (.slice (some g) p.length cap)/\Stp X.n1 X.Bl G A C/\ItR X G G A C:=by
 obtain⟨a9,a7,hout,hh⟩:=hC;have h1:=O.b1;have h2:=O.b2;have h3:=O.b3;have h4:=O.b4;have h5:=O.b5;have h0:=O.bl;have a6:∀k,k≠X.Bn->k≠X.Bu->C.heap[k]?=A.heap[k]?:=λk k1 k2=>by
  rw[hh];exact(qie _ _ _ k (λe=>k2 e)).trans (qie _ _ _ k (λe=>k1 e))
 have cn:C.heap[X.Bn]?=some (.cells #[.slice (some g) p.length cap] 29 (0,0)):=by
  rw[hh,qie _ _ _ X.Bn (λe=>by have e':X.Bn=X.Bu:=e;omega),qg h.nw];rfl
 have b6:(A.setCell X.Bn (.slice (some g) p.length cap)).heap[X.Bu]?=some (.cells #[.int .u8 (zc (p++[n]):Nat)] 130 (0,0)):=(qie _ _ _ X.Bu (λe=>by have e':X.Bu=X.Bn:=e;omega)).trans h.us;have cu:C.heap[X.Bu]?=some (.cells #[.int .u8 (zc p:Nat)] 130 (0,0)):=by
  rw[hh,qg b6];rfl
 have hsz:C.heap.size=A.heap.size:=by rw[hh];simp[qjc]
 have hst:Stp X.n1 X.Bl G A C:=⟨a9,a7,hout,by rw[hsz];exact qgA _,λk hk hc=>a6 k (λe=>by
  subst e;rcases hc with hc | hc
  ·omega
  ·exact h.nf.2.2.1 hc) (λe=>by
  subst e;rcases hc with hc | hc
  ·omega
  ·exact h.nf.2.2.2.1 hc)⟩
 have hown:A.ownsRow X.n1 3 1 (.slice (some g) p.length cap) p.length (p.map (qhj .i64)):=by
  have hn:=h.no;rw[qio,qji] at hn;obtain⟨g',cap',e,_,ho⟩:=q3y (y:=.int .i64 n) hn;cases e;exact ho
 obtain⟨_,b7,b0⟩:=kj hown (g:=g) (by simp[qhB]);have hne:∀{k:Nat} {cs:Array qgB} {ty:qh8},A.heap[k]?=some (.cells cs ty (0,0))->ty≠3->g≠k:=λ{k cs ty} hk ht e=>by
  rw[<- e,b0] at hk;cases hk;exact ht rfl
 have hr:=h.nr g (by simp[qhB]);refine⟨⟨(a6 _ (by omega) (by omega)).trans h.ls,Jm h.li (by rw[hsz];exact qgA _) λB o e hw=>?_,h.lf,(a6 _ (by omega) (by omega)).trans h.yl,cu,(a6 _ (by omega) (by omega)).trans h.gr,(a6 _ (by omega) (by omega)).trans h.pu,cn,YQ hown λg' e=>?_,λg' e=>?_,λ_ e=>absurd e a8,
  h.nf⟩,hst,
  ⟨a7,by rw[hsz];exact qgA _,λk hk hn hf k1 k2 k3=>a6 k k1 k2,λk hk=>.inl hk,λk hk=>?_⟩⟩
 ·obtain⟨b1,b2,cs,fr,b3⟩:=K8 h e hw;exact a6 B (λe=>by subst e;rw[h.nw] at b3;cases b3) (λe=>by subst e;rw[h.us] at b3;cases b3)
 ·obtain rfl:g=g':=by simpa[qhB] using e
  exact a6 g (hne h.nw (by decide)) (hne h.us (by decide))
 ·obtain rfl:g=g':=by simpa[qhB] using e
  exact hr
 ·obtain⟨v,ty,fr,e1,e2⟩:=hk;rw[cn] at e1;cases e1;exact .inl ⟨_,_,_,h.nw,e2⟩
theorem q18(p:List Int)(x:Int):zc (p++[x])=zc p ||| 2 ^ x.toNat:=by simp[zc]
theorem qez(X:vW)(O:JT X)(L:List (List Int))(p:List Int)(n:Nat)(hn:(n:Int)∈X.ws)(m7:(n:Int)∉p)(hp:∀x∈p,x∈X.ws)(p4:p.length+1<=5)(e4:∀pre G A,X.J pre G A->Pfx X pre L->q2D X (p++[(n:Int)]) G A->qhw Ya 154 #[ptA X.Bn,ptA X.Bl,ptA X.By,ptA X.Bu,ptA X.Bp] A (Rg X (p++[(n:Int)]) L pre G A)) :∀pre G A,X.J pre G A->Pfx X pre L->q2D X p G A->qhw Ya 150 #[n,ptA X.Bn,ptA X.Bu,ptA X.Bg] A (Rg X p L pre G A):=by
 intro pre G A hJ n3 n4;obtain⟨nv,hI⟩:=n4;obtain⟨i0,m9,m6,m5,m4⟩:=qjj Tp.info3p;have h8:n<5:=by have:=O.five _ hn;omega
 have c9:zc p<32:=xm p 5 λx hx=>by have:=O.five x (hp x hx);omega
 have k8:(zc p).testBit n=false:=by
  rw[Bool.eq_false_iff];intro h;obtain⟨y,hy,n9⟩:=(ZM p n).1 h;have:=O.five y (hp y hy);obtain rfl:y=(n:Int):=by omega
  exact m7 hy
 obtain⟨na,nn,nc,rfl⟩:=zt hI.no;have hb1:=O.b1;have q1:=O.b2;have q0:=O.b3;have p9:=O.b4;have p8:=O.b5;obtain⟨Bx,W1,l4,e7,hg1,d8⟩:=zr A (.cells #[n] 3);have g5:W1.heap.size=A.heap.size+1:=by rw[e7,qh6]
 have b7:=bk hg1 hI.nw;have b6:=bk hg1 hI.us;have g7:=bk hg1 hI.gr;have p6:X.n1<=A.heap.size:=by have:=qx hI.nw;omega
 have d9:∀{k:Nat} {o:Obj},A.heap[k]?=some o->(∀cs,o≠.cells cs 3 (0,0))->some k≠(qi1 na nn nc).ownBlock:=λ{k o} hk m8 e=>by
  obtain⟨_,cs,e2⟩:=kj hI.no e.symm;rw[hk] at e2;exact m8 cs (qjF e2)
 have HN1:=qgv (d9 hI.nw (λcs e=>by cases e));have HN2:=qgv (d9 hI.us (λcs e=>by cases e));have HN3:=qgv (show some Bx≠(qi1 na nn nc).ownBlock from λe=>by
  obtain⟨_,cs,e2⟩:=kj hI.no e.symm;have:=qx e2;omega)
 have c1:W1.cell? X.Bn=some (.slice na nn nc):=q8 b7 rfl;have l5:W1.cell? X.Bu=some (.int .u8 (zc p:Nat)):=q8 b6 rfl;have c3:W1.cell? Bx=some (.int .i64 n):=q8 d8 rfl;have c4:W1.cell? X.Bg=some (.func (.func 154) #[] #[ptA X.Bn,ptA X.Bl,ptA X.By,ptA X.Bu,ptA X.Bp]):=q8 g7 rfl;have z1:=qm (o:=0) b7;have z2:=qm (o:=0) b6;have h9:X.Bn<W1.heap.size:=qx b7;have hl2:X.Bu<W1.heap.size:=qx b6;have HO1:=qgv (hI.no.kept hg1 (by cases(qi1 na nn nc).ownBlock<;>simp));have ⟨HI,HX1,HG1,HW1,HBX⟩:=ZS hI d8 hg1 e7 l4;obtain⟨M,hM⟩:∃M:Int,M=(zc p:Nat):=⟨_,rfl⟩;obtain⟨M2,e8⟩:∃M2:Int,(zc p ||| 2 ^ n:Nat)=M2:=⟨_,rfl⟩;have c2:W1.cell? X.Bu=some (.int .u8 M):=by rw[hM];exact l5
 have ⟨HM,HM2⟩:=qH hM e8;have a9:∀w,qhw Ya 151 #[.int .u8 M,n] w λe w'=>e=.returned (.int .u8 M2)/\w=w':=λw=>by
  rw[hM,<- e8];exact Zu _ n w c9 h8
 have ⟨HWI,HS1⟩:=qH a9 g5;have p5:X.n1<=W1.heap.size:=by omega
 clear hI d9 d8 hg1 e7 l4 b7 b6 g7 l5 hM e8 a9 g5;unfold ptA at *
 go_enter_defers Tp.x150,Tryz.ntmps150;go_upto_region 1 with(fail);rw[<- HBX.out,<- HW1.out];refine wp_region_noPanic ?_;refine qJ 7 (λw'=>w'.cell? X.Bn=some (.slice na nn nc)/\w'.cell? X.Bu=some (.int .u8 M)/\w'.cell? Bx=some (.int .i64 n)) (by kernel_rfl) (by kernel_rfl) ⟨c1,c2,c3⟩ (λa6=>?_);simp only[qh3,qhc,qhk,qii,qhf,qhq,qhr,qhC,qho,qhe];refine tk 0 (h:=tk 1 (h:=tk 4 (h:=tk 5 (h:=?_))));try go_frame
 refine rdc 2 λK hK=>?_;go_simp;refine hK.out _ _ (by first | exact s5 | exact a6 | exact⟨(qgw _ _ none).cl a6.1,(qgw _ _ none).cl a6.2.1,(qgw _ _ none).cl a6.2.2⟩) (λa6=>?_);refine rdc 3 λK hK=>?_;refine step_append_lies _ (by rfl) _ _ _ (by rfl) X.n1 3 i0 _ 1 8 Tp.und29' m9 m6 m5 m4 rfl (by omega) (.slice na nn nc) p.length (p.map (qhj .i64)) (by rfl) (by exact HO1.out.alloc _) ⟨W1.heap.size,0,none⟩ 1 1 [.int .i64 n] (by rfl) (by rfl) (qiw (cs:=#[n]) (t:=3) (fr:=(0,0)) (qgF W1 _)) (by simp[qjk]) (by omega) (by unfold qkq;omega) (by omega) (by simp;omega) (W1.heap.size+1) (by simp) ?_;intro g' cap w5 b0 a7 d6 n8;have a8:W1.grownBy w5 (qi1 na nn nc).ownBlock:=((qgw W1 (.cells #[n] 3) none).but _).trans ⟨a7.os,a7.tape,a7.output,a7.size,a7.block⟩;have s5:w5.cell? X.Bn=some (.slice na nn nc)/\w5.cell? X.Bu=some (.int .u8 M)/\w5.cell? Bx=some (.int .i64 n):=⟨a8.cell c1 HN1.out,a8.cell c2 HN2.out,a8.cell c3 HN3.out⟩;have l7:=(a8.frozen_far _ h9 HN1.out).trans z1;have l6:=(a8.frozen_far _ hl2 HN2.out).trans z2;have ⟨HO5,HG5,HA5⟩:=z8 b0 a8 d6;clear b0 a8 d6 a7;refine hK.out _ _ (by first | exact s5 | exact a6 | exact⟨(qgw _ _ none).cl a6.1,(qgw _ _ none).cl a6.2.1,(qgw _ _ none).cl a6.2.2⟩) (λa6=>?_);refine rdc 6 λK hK=>?_;go_simp;go_at_call 151;refine(HWI.out _).mono ?_;rintro e w2 ⟨rfl,rfl⟩;refine hK.out _ _ (by first | exact s5 | exact a6 | exact⟨(qgw _ _ none).cl a6.1,(qgw _ _ none).cl a6.2.1,(qgw _ _ none).cl a6.2.2⟩) (λa6=>?_);try go_frame
 refine⟨by kernel_rfl,?_⟩;simp only[qhu,qia];have g9:X.Bn≠X.Bu:=by omega
 have n7:X.Bu≠X.Bn:=by omega
 have l9:=s5.1;have l8:=s5.2.1;go_wp2;refine NoPanic.normal ?_;obtain⟨C,hC⟩:∃C,C=(w5.setCell X.Bn (.slice (some g') (p.length+1) cap)).setCell X.Bu (.int .u8 M2):=⟨_,rfl⟩;rw[<- hC];obtain⟨e9,hst,k5,e5⟩:=HI.out.push O (O.hlt _ _ _ hJ) (n:=(n:Int)) (g':=g') (cap:=cap) (A:=A) (E:=w5) (C:=C) ((HG1.out.but _).trans HG5.out) HO5.out (by rcases HA5.out with h | h;exact .inl h;right;have:=HS1.out;omega) (by rw[hC];rfl) (by rw[hC];rfl) (by rw[hC];rfl) (by rw[hC,q18,Int.toNat_natCast,HM2.out]);have k9:=O.hJ _ _ _ _ hJ hst;have k7:C.heap[Bx]?=some (.cells #[n] 3 (0,0)):=by
  have h1:=qx HI.out.nw;have h2:=qx HI.out.us;have h3:=HBX.out;rw[e5 Bx (by omega) (by omega)];exact(HG5.out.block _ (qx HX1.out) HN3.out).trans HX1.out
 have q3:C.cell? X.Bg=some (.func (.func 154) #[] #[.pointer (some X.Bn),.pointer (some X.Bl),.pointer (some X.By),.pointer (some X.Bu),.pointer (some X.Bp)]):=q8 (o:=0) e9.gr rfl;have ⟨HC,HCK,HI2,HST,HIR,HJ2,HXB⟩:=q62 hC e5 e9 hst k5 k9 k7;clear hC e5 e9 hst k5 k9 k7 l9 l8 s5 l7 l6 c1 c2 c3 c4 z1 z2 h9 hl2 a6;go_wp2_with (go_at_call 154;refine(e4 pre G C HJ2.out n3 ⟨_,HI2.out⟩).mono ?_;rintro e w6 ⟨b,rfl,hR⟩);obtain⟨G6,⟨m3,h6⟩,d5,b9⟩:=hR;have c8:=h6.no;rw[qio,qji] at c8;obtain⟨g6,d7,e6,n2,-⟩:=q3y (y:=.int .i64 n) c8;have n6:m3=.slice (some g6) (p.length+1) d7:=e6;subst n6;have q2:=HBX.out;have p7:=qx HI.out.nw;have p3:=qx HI.out.us;have k6:w6.heap[Bx]?=some (.cells #[n] 3 (0,0)):=by
  rw[d5.keep Bx (qx HXB.out) (.inl (by omega)) (λhf=>?_) (by omega) (by omega) (λhr=>?_)]
  ·exact HXB.out
  ·have:=O.hlt _ _ _ hJ _ hf;omega
  ·obtain⟨v,ty,fr,e1,e2⟩:=hr;rw[HI2.out.nw] at e1;cases e1;obtain rfl:g'=Bx:=by simpa[qhB] using e2
   rcases HA5.out with h | h
   ·obtain⟨_,cs,h2⟩:=kj HI.out.no h;have:=qx h2;omega
   ·have:=HS1.out;omega
 refine qn7 (f:=152) (args:=#[.pointer (some X.Bn),.pointer (some X.Bu),.pointer (some Bx)]) (by simp) (by simp[go_sem]) ?_;refine(qd0 X.Bn X.Bu Bx (some ⟨g6,0,none⟩) p.length d7 (zc p) n w6 h8 c9 k8 (by omega) n2 g9 (by omega) h6.nw (by rw[h6.us,q18,Int.toNat_natCast]) k6 _).mono ?_;rintro e u' w7 ⟨rfl,rfl,g8⟩;obtain⟨h7,b8,k0⟩:=h6.pop O (λe=>by rw[e] at hn;cases hn) g8;refine⟨.bool b,by rw[results_tmp (t:=5) rfl];rfl,b,rfl,G6,⟨_,h7⟩,(HIR.out.trans d5).trans k0,?_⟩;cases b with
 | true=>
  obtain⟨xs,e1,e2⟩:=b9;exact⟨xs,e1,O.hJ _ _ _ _ e2 b8⟩
 | false=>
  obtain⟨xs,t,e1,e2⟩:=b9;exact⟨xs,t,e1,O.hJx _ _ _ _ e2 b8⟩
end
section
open Go.RowKit Go.Shelf
attribute [local go_sem] Oper.semAt_some
theorem q6E{w:qgx}{b n:Nat}{v:qgB}{xs:List qgB}(h:w.ownsRow b 3 1 v n xs):∃a c,v=.slice a n c:=by
 rcases h.2 with⟨rfl,h0⟩ | ⟨g,cap,cur,rfl,_⟩
 ·exact⟨none,0,by rw[h0]⟩
 ·exact⟨_,_,rfl⟩
theorem It3.xp{X:vW}{p:List Int}{G:Nat->Prop}{W:qgx}{lb:Option qi5}{lc:Nat}{nv:qgB}(h:It3 X p G W lb lc nv)(hl:p.length<=5):xpI (p,nv) W:=(qf.own h.no (by omega)).mono (qhx _) (qgA _)
theorem q8z(X:vW)(O:JT X)(p:List Int)(hp:p.length=X.ws.length)(b0:p.Nodup)(a9:∀x∈p,x∈X.ws):∀pre G A,X.J pre G A->Pfx X pre (zv X.ws 0 p)->q2D X p G A->qhw Ya 154 #[ptA X.Bn,ptA X.Bl,ptA X.By,ptA X.Bu,ptA X.Bp] A (Rg X p (zv X.ws 0 p) pre G A):=by
 intro pre G A hJ b6 b7;obtain⟨nv,hI⟩:=b7;have a8:=hI.xp (by have:=O.len;omega);obtain⟨na,nc,rfl⟩:=q6E hI.no;have c1:A.cell? X.Bn=some (.slice na p.length nc):=q8 hI.nw rfl;have c2:A.cell? X.Bl=some (.slice X.lb X.ws.length X.lc):=q8 hI.ls rfl;have c3:A.cell? X.By=some (.func (.yield X.l) #[] #[]):=q8 hI.yl rfl;obtain⟨fn,tmps,assign,body,hy,hR⟩:=O.hY 2 pre G (p,.slice na p.length nc) A hJ ⟨a8,hp,b0,a9,(qqg (p=[])).elim (λh=>.inr (hI.nn h (qim (by rw[<- hp,h];rfl)))) .inl⟩ b6;have b8:((p.length:Int) == (X.ws.length:Int))=true:=by rw[hp];simp
 have HI:=qgv hI;dsimp only at hy;clear a8 hI hp;refine(qjt (n:=3)).1 ?_;refine qot Tp.x154 rfl trivial ?_ rfl;have b9:∀k:Nat,(Fence.wide.depth.isSome=true->1<=k):=λk h=>by cases h
 unfold ptA;simp only[Tryz.ntmps154,qhn,qh3,qhc,qhk,qii,qhq,qhr,qhC,qkh,qho,qhe]
 gi_wp2
 refine hR.mono ?_;rintro e W3 ⟨G3,⟨rfl,a7,a6⟩ | ⟨rfl,a7,a6⟩⟩
 ·gi_wp2
  go_ret;obtain⟨h3,r3⟩:=HI.out.body O a6;exact⟨true,rfl,G3,⟨_,h3⟩,r3,[(p,.slice na p.length nc)],rfl,a7⟩
 ·gi_wp2
  go_ret;obtain⟨h3,r3⟩:=HI.out.body O a6;exact⟨false,rfl,G3,⟨_,h3⟩,r3,[(p,.slice na p.length nc)],[],rfl,a7⟩
theorem xg(ws p:List Int)(m k:Nat)(x:Int)(h:ws[k]?=some x):((ws.take (k+1)).flatMap λn=>if n∈p then[] else zv ws m (p++[n]))=((ws.take k).flatMap λn=>if n∈p then[] else zv ws m (p++[n]))++(if x∈p then[] else zv ws m (p++[x])):=by
 rw[qig,h];simp
theorem Q6(ws p:List Int)(m k:Nat):zv ws (m+1) p=((ws.take k).flatMap λn=>if n∈p then[] else zv ws m (p++[n]))++((ws.drop k).flatMap λn=>if n∈p then[] else zv ws m (p++[n])):=by
 rw[<- qpw,List.take_append_drop];rfl
theorem q8A(X:vW)(O:JT X)(m:Nat)(p:List Int)(hp:p.length+(m+1)=X.ws.length)(e6:p.Nodup)(a9:∀x∈p,x∈X.ws)(ih:∀q,q.length+m=X.ws.length->q.Nodup->(∀x∈q,x∈X.ws)->∀pre G A,X.J pre G A->Pfx X pre (zv X.ws m q)->q2D X q G A->qhw Ya 154 #[ptA X.Bn,ptA X.Bl,ptA X.By,ptA X.Bu,ptA X.Bp] A (Rg X q (zv X.ws m q) pre G A)) :∀pre G A,X.J pre G A->Pfx X pre (zv X.ws (m+1) p)->q2D X p G A->qhw Ya 154 #[ptA X.Bn,ptA X.Bl,ptA X.By,ptA X.Bu,ptA X.Bp] A (Rg X p (zv X.ws (m+1) p) pre G A):=by
 intro pre G A hJ d7 g5;obtain⟨nv,hI⟩:=g5;have e8:=O.len;obtain⟨na,nc,rfl⟩:=q6E hI.no;have c1:A.cell? X.Bn=some (.slice na p.length nc):=q8 hI.nw rfl;have c2:A.cell? X.Bl=some (.slice X.lb X.ws.length X.lc):=q8 hI.ls rfl;have h9:((p.length:Int) == (X.ws.length:Int))=false:=by rw[beq_eq_false_iff_ne];omega
 have b0:∀n:Nat,(n:Int)∈X.ws->¬ (n:Int)∈p->∀pre G A,X.J pre G A->Pfx X pre (zv X.ws m (p++[(n:Int)]))->q2D X p G A->qhw Ya 150 #[.int .i64 n,ptA X.Bn,ptA X.Bu,ptA X.Bg] A (Rg X p (zv X.ws m (p++[(n:Int)])) pre G A):=λn hn c9=>
  qez X O _ p n hn c9 a9 (by omega) (ih _ (by simp;omega) (List.nodup_append.2 ⟨e6,by simp,λa ha b hb e=>c9 (by rw[qjC.1 hb] at e;exact e ▸ ha)⟩) (λx hx=>by rcases qjv.1 hx with h | h;exact a9 x h;rw[qjC.1 h];exact hn))
 have e5:=qgv b0;have g6:=hI;have ⟨HI,HJ,HP,HPF⟩:=zY hI hJ hp d7;clear d7;clear hI hp ih hJ b0 g6;refine(qjt (n:=3)).1 ?_;refine qot Tp.x154 rfl trivial ?_ rfl;have k0:∀k:Nat,(Fence.wide.depth.isSome=true->1<=k):=λk h=>by cases h
 unfold ptA at *
 simp only[Tryz.ntmps154,qhn,qh3,qhc,qhk,qii,qhq,qhr,qhC,qkh,qho,qhe]
 gi_wp2
 gi_loopw [18] (λiv wr=>∃k:Nat,iv=.int .i64 k/\k<=X.ws.length/\∃Gk,q2D X p Gk wr/\ItR X G Gk A wr/\∃xs,xs.map ql5=((X.ws.take k).flatMap λn=>if n∈p then[] else zv X.ws m (p++[n]))/\X.J (pre++xs) Gk wr) (λiv _=>(X.ws.length - qi9 iv).toNat)
 case atStart=>exact⟨0,rfl,by omega,G,⟨_,HI.out⟩,ItR.refl _ _ _,[],by simp,by simpa using HJ.out⟩
 case round=>
  obtain⟨k,rfl,hk,Gk,⟨g8,d9⟩,d6,xs,hxs,d8⟩:=hrel;have ⟨HIK,HRK,HXS,HJK⟩:=zY d9 d6 hxs d8;clear d9 d6 hxs d8 c1 c2;by_cases hlt:k<X.ws.length
  ·obtain⟨x,a8⟩:∃x,X.ws[k]?=some x:=⟨_,qgG hlt⟩;have b8:=qhg a8;have h8:=O.five x b8;obtain⟨b1,k8,he,-,hc⟩:=HIK.out.li.cell;cases he;obtain⟨B,o,e9,k7,k6,k5,e4⟩:=hc (by intro e;rw[e] at hlt;simp at hlt);have hx:=e4 k hlt;rw[a8] at hx;simp only[qgH] at hx;obtain⟨n,rfl⟩:∃n:Nat,x=n:=⟨x.toNat,by omega⟩;have c3:wr.cell? X.Bu=some (.int .u8 (zc p:Nat)):=q8 HIK.out.us rfl;have c4:wr.cell? X.Bp=some (.func (.func 150) #[] #[.pointer (some X.Bn),.pointer (some X.Bu),.pointer (some X.Bg)]):=q8 HIK.out.pu rfl;have e7:n<5:=by omega
   have d5:zc p<32:=xm p 5 λx hx=>by have:=O.five x (a9 x hx);omega
   have g7:(k:Int)<(X.ws.length:Int):=by omega
   have ⟨HXE,HXW⟩:=qH a8 b8;obtain⟨M,hM⟩:∃M:Int,M=(zc p:Nat):=⟨_,rfl⟩;rw[<- hM] at c3;have b7:(zc p).testBit n=decide ((n:Int)∈p):=by
    rw[Bool.eq_iff_iff,ZM,decide_eq_true_eq];constructor
    ·rintro⟨y,hy,g9⟩;have:=O.five y (a9 y hy);obtain rfl:y=(n:Int):=by omega
     exact hy
    ·exact λh=>⟨n,h,by omega⟩
   have b6:∀w,qhw Ya 129 #[.int .u8 M,.int .i64 n] w λe w'=>e=.returned (.bool (decide ((n:Int)∈p)))/\w=w':=λw=>by
    rw[hM,<- b7];exact Yl _ n w d5 e7
   have a6:=qgv b6;clear a8 b8 hc e4 hM b7 b6;rw[e9];by_cases hin:(n:Int)∈p
   ·have hd:decide ((n:Int)∈p)=true:=by simpa using hin
    have a7:=qgv hin;clear hin;rw[hd] at a6;clear hd
    gi_wp2_with (refine⟨trivial,?_⟩;gi_at_call 129;refine(qjt.2 (a6.out _)).mono ?_;rintro e w2 ⟨rfl,rfl⟩)
    refine⟨λ_ h=>(by cases h),?_⟩
    gi_wp2
    go_roundw
    case rel=>exact⟨k+1,by simp,by omega,Gk,⟨_,HIK.out⟩,HRK.out,xs,by rw[xg _ _ _ _ _ HXE.out,if_pos a7.out,qmD];exact HXS.out,HJK.out⟩
    case measure=>simp[qi9];omega
   ·have hd:decide ((n:Int)∈p)=false:=by simpa using hin
    have a7:=qgv hin;clear hin;rw[hd] at a6;clear hd;have HPK:=qgv (show Pfx X (pre++xs) (zv X.ws m (p++[(n:Int)])) by
     obtain⟨t,ht⟩:=HPF.out;rw[Q6 X.ws p m (k+1),xg _ _ _ _ _ HXE.out,if_neg a7.out,<- HXS.out] at ht;exact⟨_,by rw[ht,qji];simp only[qjp];rfl⟩)
    gi_wp2_with (first
     | (refine⟨trivial,?_⟩;gi_at_call 129;refine(qjt.2 (a6.out _)).mono ?_;rintro e w2 ⟨rfl,rfl⟩)
     | (refine⟨trivial,?_⟩;gi_at_call 150;refine(qjt.2 (e5.out n HXW.out a7.out (pre++xs) Gk _ HJK.out HPK.out ⟨_,HIK.out⟩)).mono ?_;rintro e w3 ⟨b,rfl,hR⟩;cases b))
    ·obtain⟨G3,c8,b9,ys,t,e1,e2⟩:=hR;go_ret;refine⟨false,rfl,G3,c8,HRK.out.trans b9,xs++ys,t++((X.ws.drop (k+1)).flatMap λn=>if n∈p then[] else zv X.ws m (p++[n])),?_,by simpa using e2⟩;rw[Q6 X.ws p m (k+1),xg _ _ _ _ _ HXE.out,if_neg a7.out,e1,qji,HXS.out];simp
    ·obtain⟨G3,c8,b9,ys,e1,e2⟩:=hR;go_roundw
     case rel=>exact⟨k+1,by simp,by omega,G3,c8,HRK.out.trans b9,xs++ys,by rw[xg _ _ _ _ _ HXE.out,if_neg a7.out,qji,HXS.out,e1],by simpa using e2⟩
     case measure=>simp[qi9];omega
  ·obtain rfl:k=X.ws.length:=by omega
   gi_wp2
   go_ret;exact⟨true,rfl,Gk,⟨_,HIK.out⟩,HRK.out,xs,by rw[HXS.out,Q6 X.ws p m X.ws.length];simp,HJK.out⟩
theorem q4g(X:vW)(O:JT X):∀(m:Nat) (q:List Int),q.length+m=X.ws.length->q.Nodup->(∀x∈q,x∈X.ws)->∀pre G A,X.J pre G A->Pfx X pre (zv X.ws m q)->q2D X q G A->qhw Ya 154 #[ptA X.Bn,ptA X.Bl,ptA X.By,ptA X.Bu,ptA X.Bp] A (Rg X q (zv X.ws m q) pre G A)
 | 0,q,h,hn,hq=>q8z X O q (by omega) hn hq
 | m+1,q,h,hn,hq=>q8A X O m q h hn hq (q4g X O m)
end
section
open Go.RowKit Go.Shelf
theorem q24{F:Fence}(hd:F.depth=none)(k:Nat):F.room k:=λd h=>by rw[hd] at h;cases h
theorem qav{F:Fence}(hd:F.depth=none){m m':Nat}{P:qh2}{l:Nat}{f:qib}{tmps:Array qgB}{assign body:qje}{w:qgx}{R:Ending->qgx->Prop}(h:RoundIn F m P l f tmps assign body w R):RoundIn F m' P l f tmps assign body w R:=⟨h.1,λc cs _=>h.2 c cs (q24 hd _)⟩
theorem q9h{F:Fence}(hd:F.depth=none){m:Nat}(m':Nat){P:qh2}{l:Nat}{args:Array qgB}{W:qgx}{R:Ending->qgx->Prop}(h:YieldAt F m P l args W R):YieldAt F m' P l args W R:=by
 obtain⟨fn,tmps,assign,body,hy,hR⟩:=h;exact⟨fn,tmps,assign,body,hy,qav hd hR⟩
theorem q5B(n:Nat)(Bl:Nat)(b:Option qi5)(c:Nat)(ll ws:List Int)(hS:ZZ ll ws)(h5:∀x∈ws,0<=x/\x<5)(k9:ws.Nodup)(hlen:ws.length<=5)(l:Nat)(J Jx:List (List Int × qgB)->(Nat->Prop)->qgx->Prop)(G0:Nat->Prop)(W:qgx)(h9:W.heap[Bl]?=some (.cells #[.slice b ll.length c] 29 (0,0)))(hI:qf 0 W.heap.size W (.slice b ll.length c) ll)(hB:¬ G0 Bl)(hF:∀s G A,J s G A->∀k,G k->k<A.heap.size)(hJ:∀s G A C,J s G A->Stp W.heap.size Bl G A C->J s G C)(hJx:∀s G A C,Jx s G A->Stp W.heap.size Bl G A C->Jx s G C)(hY:∀pre G x W1,J pre G W1->xpO ws x W1->(∃t,zv ws ws.length []=(pre++[x]).map ql5++t)->YieldAt Fence.wide n Ya l #[x.2] W1 λe W'=>∃G',(e=.returned (.bool true)/\J (pre++[x]) G' W'/\Bod W.heap.size Bl G G' W1 W')\/(e=.returned (.bool false)/\Jx (pre++[x]) G' W'/\Bod W.heap.size Bl G G' W1 W'))(h0:J [] G0 W) :qhw Ya 149 #[.func (.yield l) #[] #[],.pointer (some Bl)] W λe W'=>(∃v,e=.returned v)/\((∃xs G,xs.map ql5=zv ws ws.length []/\J xs G W')\/(∃pre G,(∃t,zv ws ws.length []=pre.map ql5++t)/\Jx pre G W')):=by
 have g9:=qx h9;obtain⟨By,W1,e6,d7,hg1,e9⟩:=zr W (.cells #[.func (.yield l) #[] #[]] 51);have b8:W1.heap.size=By+1:=by rw[d7,qh6,e6]
 have b6:=bk hg1 h9;have c1:W1.cell? Bl=some (.slice b ll.length c):=q8 b6 rfl;have z1:=qm (o:=0) b6;have g5:Bl<W1.heap.size:=qx b6;have l6:=qgv ((hI.kept hg1).mono (qgA _) hg1.size);have ⟨HW1,HBy,HS1,HG1,HY1,HL1⟩:=Kh d7 e6 b8 hg1 e9 b6;clear d7 e6 b8 hg1 e9 b6 hI;go_enter Tp.x149,Tryz.ntmps149;go_upto_region 1 with(fail);rw[<- HBy.out,<- HW1.out];go_upto_region 2 with(first
  | (go_at_call 135;refine(Z2 _ _ _ _).mono ?_;rintro e w2 ⟨rfl,rfl⟩)
  | (go_at_call 134;refine(hS W1.heap.size (.slice b ll.length c) _ (by simp) (by rw[kL];rfl) ((l6.out.alloc _).mono (qgA _) (by simp))).mono ?_;rintro e w2 ⟨v,rfl,d9,c8,a6⟩;obtain⟨lb,lc,rfl,-,-⟩:=d9.cell;have c2:=(((qgw W1 (.cells #[.slice b ll.length c] 29) none).trans a6).cl c1);have z2:=(((qgw W1 (.cells #[.slice b ll.length c] 29) none).trans a6).frozen_far _ g5 (by simp)).trans z1;have HI2:=qgv d9;have HG2:=qgv ((qgw W1 (.cells #[.slice b ll.length c] 29) none).trans a6);have HN2:=qgv c8;clear d9 c8 a6))
 have hwl:=qx ((bk HG2.out HL1.out));obtain⟨W4,d6⟩:∃W4,W4=w2.setCell Bl (.slice lb ws.length lc):=⟨_,rfl⟩;rw[<- d6];have a9:=qgv d6;clear d6 c1 c2 z1 z2;have l9:∀(a:qi5) (fn:Fn) (x y:Array qgB) (m:Mode) (w:qgx),(store a (.func fn x y) m).run Ya w=stored Ya w a (.func fn x y) m:=λa fn x y m w=>run_store _ w a _ m rfl;go_upto_region 6 with(fail);obtain⟨W8,a7⟩:∃W8,W8=(((W4.alloc (.cells #[.slice none 0 0] 29)).alloc (.cells #[.int .u8 0] 130)).alloc (.cells #[.nilFunc] 31)).alloc (.cells #[.func (.func 150) #[] #[.pointer (some W4.heap.size),.pointer (some (W4.heap.size+1:Nat)),.pointer (some (W4.heap.size+1+1:Nat))]] 82):=⟨_,rfl⟩;have e8:(((W4.alloc (.cells #[.slice none 0 0] 29)).alloc (.cells #[.int .u8 0] 130)).alloc (.cells #[.nilFunc] 31)).alloc (.cells #[.func (.func 150) #[] #[.pointer (some W4.heap.size),.pointer (some (W4.heap.size+1:Nat)),.pointer (some (W4.heap.size+1+1:Nat))]] 82)=W8:=a7.symm;rw[e8];clear e8;obtain⟨S,a8⟩:∃S,S=W4.heap.size:=⟨_,rfl⟩;rw[<- a8] at a7 ⊢;have b9:W4.heap.size=w2.heap.size:=by rw[a9.out];simp[qjc]
 have l8:=HG2.out.size;have g6:W4.heap[Bl]?=some (.cells #[.slice lb ws.length lc] 29 (0,0)):=by rw[a9.out,qg (bk HG2.out HL1.out)];rfl
 have e7:W4.heap[By]?=some (.cells #[.func (.yield l) #[] #[]] 51 (0,0)):=by
  rw[a9.out,qie _ _ _ By (λe=>by have e':By=Bl:=e;have:=HBy.out;omega)];exact bk HG2.out HY1.out
 have ha:∀(w:qgx) (o:Obj) (k:Nat) (p:Obj),w.heap[k]?=some p->(w.alloc o).heap[k]?=some p:=λw o k p h=>qp h;have k0:=a8;have sA:∀(w:qgx) (o:Obj),(w.alloc o).heap.size=w.heap.size+1:=λw o=>qh6 w o;have n8:W8.heap[S]?=some (.cells #[.slice none 0 0] 29 (0,0)):=by rw[a7,a8];exact ha _ _ _ _ (ha _ _ _ _ (ha _ _ _ _ (qgF W4 _)))
 have u8:W8.heap[S+1]?=some (.cells #[.int .u8 0] 130 (0,0)):=by
  rw[a7];refine ha _ _ _ _ (ha _ _ _ _ ?_);have:=qgF (W4.alloc (.cells #[.slice none 0 0] 29)) (.cells #[.int .u8 0] 130)
  rwa [sA,<- a8] at this
 have g8:W8.heap[S+2]?=some (.cells #[.nilFunc] 31 (0,0)):=by
  rw[a7];refine ha _ _ _ _ ?_;have:=qgF ((W4.alloc (.cells #[.slice none 0 0] 29)).alloc (.cells #[.int .u8 0] 130)) (.cells #[.nilFunc] 31)
  rwa [sA,sA,<- a8] at this
 have p8:W8.heap[S+3]?=some (.cells #[.func (.func 150) #[] #[.pointer (some S),.pointer (some (S+1:Nat)),.pointer (some (S+2:Nat))]] 82 (0,0)):=by
  rw[a7];have:=qgF (((W4.alloc (.cells #[.slice none 0 0] 29)).alloc (.cells #[.int .u8 0] 130)).alloc (.cells #[.nilFunc] 31)) (.cells #[.func (.func 150) #[] #[.pointer (some S),.pointer (some (S+1:Nat)),.pointer (some (S+1+1:Nat))]] 82)
  rwa [sA,sA,sA,<- a8] at this
 have g7:W4.grownBy W8 none:=by
  rw[a7];exact(((qgw _ _ none).trans (qgw _ _ none)).trans (qgw _ _ none)).trans (qgw _ _ none)
 have cg:W8.cell? (S+1+1:Nat)=some .nilFunc:=q8 g8 rfl;have zg:W8.frozen? ⟨S+1+1,0,none⟩=false:=qm g8;have ⟨hN8,hU8,hG8,hP8,HG8,HS4,HL4,HY4⟩:=qbe n8 u8 g8 p8 g7 a8 g6 e7;have k6:=qgv b9;clear n8 u8 g8 p8 g7 a8 g6 e7 b9 a7 ha sA k0;go_upto_region 7 with(fail);obtain⟨C,hC⟩:∃C,C=W8.setCell (S+2:Nat) (.func (.func 154) #[] #[.pointer (some S),.pointer (some Bl),.pointer (some By),.pointer (some (S+1:Nat)),.pointer (some (S+3:Nat))]):=⟨_,rfl⟩;have eC:W8.setCell (S+1+1:Nat) (.func (.func 154) #[] #[.pointer (some S),.pointer (some Bl),.pointer (some By),.pointer (some (S+1:Nat)),.pointer (some (S+1+1+1:Nat))])=C:=hC.symm;rw[eC];clear eC cg zg;have b7:=qe W8 (S+2) 0 (.func (.func 154) #[] #[.pointer (some S),.pointer (some Bl),.pointer (some By),.pointer (some (S+1:Nat)),.pointer (some (S+3:Nat))]);rw[<- hC] at b7;have a6:C.heap[S+2]?=some (.cells #[.func (.func 154) #[] #[.pointer (some S),.pointer (some Bl),.pointer (some By),.pointer (some (S+1:Nat)),.pointer (some (S+3:Nat))]] 31 (0,0)):=by rw[hC,qg hG8.out];rfl
 have k8:∀k o,k≠S+2->W8.heap[k]?=some o->C.heap[k]?=some o:=λk o hk h=>blk b7 (by simpa using hk) h;have k4:∀k o,W4.heap[k]?=some o->C.heap[k]?=some o:=λk o h=>k8 k o (by have:=qx h;have:=HS4.out;omega) (bk HG8.out h);have k5:=HBy.out;have b8:=HS1.out;have hS:=HS4.out;have hsz:=k6.out;have l5:C.heap.size=W8.heap.size:=by rw[hC];simp[qjc]
 have k7:=HG8.out.size;have hst:Stp W.heap.size Bl G0 W C:=by
  have h2:=HG1.out.trans HG2.out;refine⟨?_,?_,?_,?_,λk hk hc=>?_⟩
  ·rw[hC];exact HG8.out.os.trans (by rw[a9.out];exact h2.os)
  ·rw[hC];exact HG8.out.tape.trans (by rw[a9.out];exact h2.tape)
  ·rw[hC];exact HG8.out.output.trans (by rw[a9.out];exact h2.output)
  ·omega
  ·have l4:k≠Bl:=by
    rintro rfl;rcases hc with hc | hc
    ·exact hc.2 rfl
    ·exact hB hc
   have e2:=h2.block k hk (by simp);have e4:W4.heap[k]?=w2.heap[k]?:=by rw[a9.out];exact qie _ _ _ k (λe=>l4 e)
   have e8:=HG8.out.block k (by omega) (by simp);rw[b7.block k (by omega) (by simp;omega),e8,e4,e2]
 have b0:∀k,W.heap.size<=k->¬ G0 k:=λk hk h=>by have:=hF _ _ _ h0 k h;omega
 obtain⟨X,hX⟩:∃X:vW,X={ Bl,By,Bn:=S,Bu:=S+1,Bg:=S+2,Bp:=S+3,n1:=W.heap.size,l,ws,lb,lc,J,Jx,T:=zv ws ws.length [] }:=⟨_,rfl⟩;have hO:JT X:=by
  rw[hX];exact⟨hF,g9,by show W.heap.size<=By;omega,by show By<S;omega,by show S<S+1;omega,by show S+1<S+2;omega,by show S+2<S+3;omega,hJ,hJx,h5,k9,hlen,λm pre G x A h1 h2 h3=>q9h rfl m (hY pre G x A h1 h2 (by obtain⟨t,ht⟩:=h3;exact⟨t,by rw[qji,qjp];exact ht⟩))⟩
 have c9:qf W.heap.size C.heap.size C (.slice lb ws.length lc) ws:=by
  have h:=HI2.out;rw[qh6] at h;have h4:=h.kept (qe w2 Bl 0 (.slice lb ws.length lc)) (λR e=>by cases e;left;omega);rw[<- a9.out] at h4;have h8:=h4.kept HG8.out;have hc:=h8.kept b7 (λR e=>by cases e;right;omega);exact hc.mono (by omega) (by omega)
 have d8:It3 X [] G0 C lb lc (.slice none 0 0):=by
  rw[hX];refine⟨k4 _ _ HL4.out,c9,λB o e hne=>?_,k4 _ _ HY4.out,k8 (S+1) _ (by omega) hU8.out,a6,k8 (S+3) _ (by omega) hP8.out,k8 S _ (by omega) hN8.out,qjh _ _ _ _,λg e=>by simp[qhB] at e,λ_ _=>rfl,hB,b0 _ (by show W.heap.size<=By;omega),b0 _ (by show W.heap.size<=S;omega),b0 _ (by show W.heap.size<=S+1;omega),b0 _ (by show W.heap.size<=S+2;omega),b0 _ (by show W.heap.size<=S+3;omega)⟩;obtain⟨base,cap,e',hl,hr⟩:=c9;cases e';obtain⟨B',o',cs,fr,e1,e2,e3,e4,e5⟩:=hr hne;rw[e] at e1;cases e1;exact b0 _ e2
 have d5:=q4g X hO ws.length [] (by rw[hX];simp) (by simp) (by simp) [] G0 C (by rw[hX];exact hJ _ _ _ _ h0 hst) (by rw[hX];exact⟨[],by simp⟩) ⟨_,by rw[hX] at d8 ⊢;exact d8⟩;rw[hX] at d5;have cG:C.cell? (S+1+1:Nat)=some (.func (.func 154) #[] #[.pointer (some S),.pointer (some Bl),.pointer (some By),.pointer (some (S+1:Nat)),.pointer (some (S+3:Nat))]):=q8 a6 rfl;have l7:=qgv d5;clear d5 d8 hO hX c9 b0 hst l5 k7 hC b7 a6 k8 k4 k5 b8 hS hsz;go_wp2_with (go_at_call 154;refine(l7.out).mono ?_;rintro e w9 ⟨b',rfl,hR⟩);go_end0;refine⟨⟨_,rfl⟩,?_⟩;obtain⟨G9,-,-,c3⟩:=hR;cases b' with
 | true=>
  obtain⟨xs,e1,e2⟩:=c3;exact .inl ⟨xs,G9,e1,by simpa using e2⟩
 | false=>
  obtain⟨xs,t,e1,e2⟩:=c3;exact .inr ⟨xs,G9,⟨t,e1⟩,by simpa using e2⟩
theorem YT(b:Option qi5)(n c:Nat)(w:qgx):qhw Ya 117 #[.slice b n c] w λe w'=>e=.returned (.func (.func 149) #[] #[.pointer (some w.heap.size)])/\w'=w.alloc (.cells #[.slice b n c] 29):=by
 go_enter Tp.x117,Tryz.ntmps117;go_wp2;go_ret;exact⟨rfl,rfl⟩
theorem ZJ(n:Nat)(Bl:Nat)(b:Option qi5)(c:Nat)(ll ws:List Int)(hS:ZZ ll ws)(h5:∀x∈ws,0<=x/\x<5)(a7:ws.Nodup)(hlen:ws.length<=5)(w0:qgx)(a6:w0.heap[Bl]?=some (.cells #[.slice b ll.length c] 29 (0,0)))(hI:qf 0 w0.heap.size w0 (.slice b ll.length c) ll) :qgi Fence.wide n Ya 149 #[.pointer (some Bl)] (λx:List Int × qgB=>#[x.2]) (xpO ws) (λxs=>xs.map ql5=zv ws ws.length []) (λpre=>∃t,zv ws ws.length []=pre.map ql5++t) Bl w0:=λl J Jx G0 W hb hB hF hJ hJx hY h0=>
 qjt.2 (q5B (n - 1) Bl b c ll ws hS h5 a7 hlen l J Jx G0 W ((hb.block Bl (qx a6)).trans a6) ((hI.kept (vO hb)).mono (qgA _) hb.size) hB hF hJ hJx hY h0)
theorem q4i(lo hi:Nat)(yv qv:qgB)(ps:List Par)(lim:Int)(l:List Int)(w:qgx)(d7:j5 lo hi w yv ps lim)(hI:qf lo hi w qv l)(hhi:hi<=w.heap.size)(hok:YOk ps lim)(hp:PIn ps l) :qhw Ya 114 #[yv,qv] w λe w'=>e=.returned (.bool (decide (qK ps l<=lim) && qz ps (pre Par.mx ps ps.length) l))/\w.grownBy w' none:=by
 obtain⟨pv,rfl,hP⟩:=d7;obtain⟨yb,yc,rfl,e4,-⟩:=hP.cell;obtain⟨base,cap,rfl,e5,-⟩:=hI.cell;obtain⟨Y,w3,c9,b8,a8,d5⟩:=zr w (.cells #[.slice yb ps.length yc,lim] 91);have ⟨HB3,HG3⟩:=qH d5 a8;have d9:=qgv (hI.kept a8);have d8:=qgv (hP.kept a8);have ⟨HW3,HYe,HY,HPO⟩:=zY b8 c9 hok hp;have a7:hi<=w3.heap.size:=qh0 hhi a8.size;clear a8 d5 b8 c9 hI hP hok hp;go_enter Tp.x114,Tryz.ntmps114;go_upto_region 1 with(fail);rw[<- HYe.out,<- HW3.out];have HT:=qgv (qh1 w3 none);have b7:∀W,w3.grownBy W none->j5 lo hi W (.agg #[.slice yb ps.length yc,lim]) ps lim:=λW h=>⟨_,rfl,d8.out.kept h⟩;have c3:∀W,w3.grownBy W none->qf lo hi W (.slice base l.length cap) l:=λW h=>d9.out.kept h;have b9:∀W,w3.grownBy W none->W.cell? Y=some (.slice yb ps.length yc)/\W.cell? ⟨Y,1,none⟩=some (.int .i64 lim):=λW h=>
  ⟨q8 (bk h HB3.out) rfl,q8 (bk h HB3.out) rfl⟩
 have ⟨HYR,HIR,HSR⟩:=z8 b7 c3 b9;clear b7 c3 b9;have SC:=qgv (HSR.out w3 (qh1 w3 none));obtain⟨gx,a9⟩:∃gx,gx=pre Par.mx ps ps.length:=⟨_,rfl⟩;have c8:∀i,0<=gx i/\gx i<=1000:=by rw[a9];exact HY.out.mx
 have ⟨HGX,HBX⟩:=qH a9 c8;clear a9 c8;have HC:=qgv (show q2r ps lim l=if qK ps l<=lim then 0 else 10 from rfl);by_cases a6:qK ps l<=lim
 ·have HD:=qgv (show decide (qK ps l<=lim)=true by simpa using a6);have b6:=qgv (HC.out.trans (if_pos a6));clear a6;go_region_held3 (λw'=>w'.cell? Y=some (.slice yb ps.length yc)/\w'.cell? ⟨Y,1,none⟩=some (.int .i64 lim))
   (first | exact SC.out)
   (first
    | (go_at_call 133;refine(vh lo hi _ _ ps lim l _ (HYR.out _ (by first | exact HT.out | exact HT.out.trans (qc _ _))) (HIR.out _ (by first | exact HT.out | exact HT.out.trans (qc _ _))) (qh0 a7 (by first | exact HT.out.size | exact(HT.out.trans (qc _ none)).size)) HY.out.len HPO.out.ok HPO.out.nd (λp hp=>by have:=HY.out.each p hp;omega) HPO.out.len).mono ?_;rintro e w5 ⟨rfl,hg⟩;rw[b6.out];replace HT:=qgv (show w3.grownBy w5 none by first | exact HT.out.trans hg | exact(HT.out.trans (qc _ _)).trans hg);replace SC:=qgv (HSR.out w5 HT.out);clear hg)
    | (go_at_call 92;refine(Qa lo hi _ ps lim _ (HYR.out _ (by first | exact HT.out | exact HT.out.trans (qc _ _))) (qh0 a7 (by first | exact HT.out.size | exact(HT.out.trans (qc _ none)).size)) HY.out.len).mono ?_;rintro e w5 ⟨rfl,hg⟩;rw[<- HGX.out];replace HT:=qgv (show w3.grownBy w5 none by first | exact HT.out.trans hg | exact(HT.out.trans (qc _ _)).trans hg);replace SC:=qgv (HSR.out w5 HT.out);clear hg)
    | (go_at_call 96;refine(kB lo hi _ _ ps lim l _ _ (HYR.out _ (by first | exact HT.out | exact HT.out.trans (qc _ _))) (HIR.out _ (by first | exact HT.out | exact HT.out.trans (qc _ _))) (qh0 a7 (by first | exact HT.out.size | exact(HT.out.trans (qc _ none)).size)) HY.out.len HPO.out.ok (by have:=HPO.out.len;omega) HBX.out).mono ?_;rintro e w5 ⟨rfl,hg⟩;replace HT:=qgv (show w3.grownBy w5 none by first | exact HT.out.trans hg | exact(HT.out.trans (qc _ _)).trans hg);replace SC:=qgv (HSR.out w5 HT.out);clear hg))
  all_goals
   have HV:=qgv (show qz ps (pre Par.mx ps ps.length) l=qz ps gx l by rw[HGX.out]);generalize qz ps gx l=z at HV ⊢;go_wp2;go_ret;exact⟨by rw[HV.out,HD.out];rfl,HG3.out.trans HT.out⟩
 ·have HD:=qgv (show decide (qK ps l<=lim)=false by simpa using a6);have b6:=qgv (HC.out.trans (if_neg a6));clear a6;refine qJ 11 (λw'=>w'.cell? Y=some (.slice yb ps.length yc)/\w'.cell? ⟨Y,1,none⟩=some (.int .i64 lim)) (by kernel_rfl) (by kernel_rfl) SC.out (λb0=>?_);simp only[qh3,qhc,qhk,qii,qhf,qhq,qhr,qhC,qho,qhe];refine tk 0 (h:=tk 1 (h:=?_));try go_frame
  refine rdc 2 λK hK=>?_;go_simp;go_at_call 133;refine(vh lo hi _ _ ps lim l _ (HYR.out _ (HT.out.trans (qc _ _))) (HIR.out _ (HT.out.trans (qc _ _))) (qh0 a7 (HT.out.trans (qc _ none)).size) HY.out.len HPO.out.ok HPO.out.nd (λp hp=>by have:=HY.out.each p hp;omega) HPO.out.len).mono ?_;rintro e w5 ⟨rfl,hg⟩;rw[b6.out];have d6:=qgv ((HT.out.trans (qc _ _)).trans hg);clear hg;refine hK.out _ _ (HSR.out w5 d6.out) (λb0=>?_);refine tk 3 (h:=tk 4 (h:=tku 5 (h:=tku 6 (h:=tku 7 (h:=tku 8 (h:=tku 9 (h:=tk 10 (h:=?_))))))));try go_frame
  refine⟨by kernel_rfl,?_⟩;simp only[qhu,qia];go_wp2;go_ret;exact⟨by rw[HD.out];rfl,HG3.out.trans d6.out⟩
def JL(ps:List Par)(lim:Int)(l:List Int):Bool:=decide (qK ps l<=lim) && qz ps (pre Par.mx ps ps.length) l
theorem q2j(lo hi:Nat)(yv qv:qgB)(ps:List Par)(lim:Int)(l:List Int)(w:qgx)(a6:j5 lo hi w yv ps lim)(hI:qf lo hi w qv l)(hhi:hi<=w.heap.size)(hok:YOk ps lim)(hp:POk ps lim l) :qhw Ya 114 #[yv,qv] w λe w'=>e=.returned (.bool (qz ps (pre Par.mx ps ps.length) l))/\w.grownBy w' none:=by
 have h:=q4i lo hi yv qv ps lim l w a6 hI hhi hok hp.pin
 rwa [show decide (qK ps l<=lim)=true by simpa using hp.tall,qou] at h
end
section
open Go.RowKit Go.Shelf
attribute [local go_sem] Oper.semAt_some
structure Frm(w3:qgx)(Bl:Nat)(W:qgx):Prop where
 os:W.os=w3.os
 tape:W.tape=w3.tape
 output:W.output=w3.output
 size:w3.heap.size<=W.heap.size
 keep:∀k,k<w3.heap.size->k≠Bl->W.heap[k]?=w3.heap[k]?
theorem Frm.refl(w3:qgx)(Bl:Nat):Frm w3 Bl w3:=⟨rfl,rfl,rfl,qgA _,λ_ _ _=>rfl⟩
theorem Frm.stp{w3:qgx}{Bl:Nat}{G:Nat->Prop}{A C:qgx}(h:Frm w3 Bl A)(hs:Stp w3.heap.size Bl G A C):Frm w3 Bl C :=
 ⟨hs.os.trans h.os,hs.tape.trans h.tape,hs.output.trans h.output,qh0 h.size hs.size,λk hk hn=>(hs.keep k (qh7 hk h.size) (.inl ⟨hk,hn⟩)).trans (h.keep k hk hn)⟩
theorem Frm.grown{w3:qgx}{Bl:Nat}{A C:qgx}(h:Frm w3 Bl A)(hg:A.grownBy C none):Frm w3 Bl C :=
 ⟨hg.os.trans h.os,hg.tape.trans h.tape,hg.output.trans h.output,qh0 h.size hg.size,λk hk hn=>(hg.block k (qh7 hk h.size) (by simp)).trans (h.keep k hk hn)⟩
theorem q1o{w w3 C E:qgx}{D:Nat}(a6:w.grownBy w3 none)(o:C.os=w3.os/\C.tape=w3.tape/\C.output=w3.output/\w3.heap.size<=C.heap.size/\∀k,k<w.heap.size->C.heap[k]?=w3.heap[k]?)(hg:C.grownBy E (some D))(hD:w.heap.size<=D):w.grownBy E none :=
 ⟨hg.os.trans (o.1.trans a6.os),hg.tape.trans (o.2.1.trans a6.tape),hg.output.trans (o.2.2.1.trans a6.output),qh0 a6.size (qh0 o.2.2.2.1 hg.size),λk hk _=>
  (hg.block k (qh7 hk (qh0 a6.size o.2.2.2.1)) (by intro e;cases e;omega)).trans ((o.2.2.2.2 k hk).trans (a6.block k hk (by simp)))⟩
def q00:Nat->Prop:=λ_=>False
theorem q6t{ws:List Int}(x:List Int × qgB)(A:qgx)(l:Nat)(o o':Obj)(h:A.heap[l]?=some o)(hc:o.isCells=false)(hx:xpO ws x A):xpO ws x (A.putObj l o'):=by
 obtain⟨⟨base,cap,e,hl,hr⟩,h2⟩:=hx;refine⟨⟨base,cap,e,hl,λhne=>?_⟩,h2⟩;obtain⟨B,o2,cs,fr,e1,e2,e3,e4,e5⟩:=hr hne;have hg:=qkn A l o';exact⟨B,o2,cs,fr,e1,e2,qh7 e3 hg.size,(hg.block B e3 (λe=>by cases e;rw[h] at e4;cases e4;cases hc)).trans e4,e5⟩
theorem q8C(yv qv:qgB)(ps:List Par)(lim:Int)(ll ws:List Int)(w:qgx)(k6:j5 0 w.heap.size w yv ps lim)(hI:qf 0 w.heap.size w qv ll)(hok:YOk ps lim)(hS:ZZ ll ws)(h5:∀x∈ws,0<=x/\x<5)(k5:ws.Nodup)(hlen:ws.length<=5)(k0:∀x:List Int,x.length=ws.length->x.Nodup->(∀y∈x,y∈ws)->PIn ps x) :qhw Ya 102 #[yv,qv] w λe w'=>w.grownBy w' none/\((∃x v,(zv ws ws.length []).find? (JL ps lim)=some x/\e=.returned (.tuple #[v,.bool true])/\qf w.heap.size w'.heap.size w' v x) \/((zv ws ws.length []).find? (JL ps lim)=none/\e=.returned (.tuple #[.slice none 0 0,.bool false]))):=by
 obtain⟨pv,rfl,hP⟩:=k6;obtain⟨yb,yc,rfl,l9,-⟩:=hP.cell;obtain⟨base,cap,rfl,m4,-⟩:=hI.cell;obtain⟨Y,a8⟩:∃Y,Y=w.heap.size:=⟨_,rfl⟩;refine(qjt (n:=6)).1 ?_;refine qo4 Tp.x102 rfl trivial ?_ rfl;simp only[Tryz.ntmps102,qhn,qh3,qhc,qhk,qii,qhq,qhr,qhC,qkh,qho,qhe]
 gi_wp2_with (refine⟨trivial,?_⟩;gi_at_call 117;refine(qjt.2 (YT _ _ _ _)).mono ?_;rintro e w2 ⟨rfl,rfl⟩)
 obtain⟨w3,a7⟩:∃w3,w3=(((w.alloc (.cells #[.slice yb ps.length yc,lim] 91)).alloc (.cells #[.slice none 0 0] 29)).alloc (.cells #[.bool false] 4)).alloc (.cells #[.slice base ll.length cap] 29):=⟨_,rfl⟩;have e3:(((w.alloc (.cells #[.slice yb ps.length yc,lim] 91)).alloc (.cells #[.slice none 0 0] 29)).alloc (.cells #[.bool false] 4)).alloc (.cells #[.slice base ll.length cap] 29)=w3:=a7.symm;rw[e3];clear e3;rw[<- a8];have sA:∀(w:qgx) (o:Obj),(w.alloc o).heap.size=w.heap.size+1:=λw o=>qh6 w o;have ha:∀(w:qgx) (o:Obj) (k:Nat) (p:Obj),w.heap[k]?=some p->(w.alloc o).heap[k]?=some p:=λw o k p h=>qp h;have c8:w.grownBy w3 none:=by
  rw[a7];exact(((qgw _ _ none).trans (qgw _ _ none)).trans (qgw _ _ none)).trans (qgw _ _ none)
 have g9:w3.heap.size=Y+4:=by rw[a7,sA,sA,sA,sA,a8]
 have y3:w3.heap[Y]?=some (.cells #[.slice yb ps.length yc,lim] 91 (0,0)):=by rw[a7,a8];exact ha _ _ _ _ (ha _ _ _ _ (ha _ _ _ _ (qgF w _)))
 have r3:w3.heap[Y+1]?=some (.cells #[.slice none 0 0] 29 (0,0)):=by
  rw[a7];refine ha _ _ _ _ (ha _ _ _ _ ?_);have:=qgF (w.alloc (.cells #[.slice yb ps.length yc,lim] 91)) (.cells #[.slice none 0 0] 29)
  rwa [sA,<- a8] at this
 have b3:w3.heap[Y+2]?=some (.cells #[.bool false] 4 (0,0)):=by
  rw[a7];refine ha _ _ _ _ ?_;have:=qgF ((w.alloc (.cells #[.slice yb ps.length yc,lim] 91)).alloc (.cells #[.slice none 0 0] 29)) (.cells #[.bool false] 4)
  rwa [sA,sA,<- a8] at this
 have l3:w3.heap[Y+3]?=some (.cells #[.slice base ll.length cap] 29 (0,0)):=by
  rw[a7];have:=qgF (((w.alloc (.cells #[.slice yb ps.length yc,lim] 91)).alloc (.cells #[.slice none 0 0] 29)).alloc (.cells #[.bool false] 4)) (.cells #[.slice base ll.length cap] 29)
  rwa [sA,sA,sA,<- a8] at this
 have k8:=(hI.kept c8).mono (qgA _) c8.size;have l7:=qgv ((hP.kept c8));have ⟨HR3,HB3,HY3,HS3,HG3,HYe⟩:=Kh r3 b3 y3 g9 c8 a8;clear sA ha a7 hI hP r3 b3 y3 c8 a8;refine vw rfl (by omega) (gf:=149) (lb:=#[.pointer (some (Y+3:Nat))]) rfl trivial (enters_of Tp.x149 (by kernel_rfl) rfl)
  (ZJ 5 (Y+3) base cap ll ws hS h5 k5 hlen w3 l3 k8) (qn2 _ _) (λ_=>rfl) (G0:=q00) (λh=>h) (by omega) (q6t)
  (λpr G W=>(∀x∈pr.map ql5,JL ps lim x=false)/\G=q00/\Frm w3 (Y+3) W)
  (λc pr G W=>c=.ret/\∃q x v lo hi,pr.map ql5=q++[x]/\(∀y∈q,JL ps lim y=false)/\JL ps lim x=true/\(W.os=w3.os/\W.tape=w3.tape/\W.output=w3.output/\w3.heap.size<=W.heap.size/\∀k,k<Y->W.heap[k]?=w3.heap[k]?) /\
   W.heap[Y+1]?=some (.cells #[v] 29 (0,0))/\W.heap[Y+2]?=some (.cells #[.bool true] 4 (0,0))/\qf lo hi W v x/\(∀k,lo<=k->k<hi->G k)/\hi<=W.heap.size/\Y<=lo)
  (λs G A h k hk=>by rw[h.2.1] at hk;exact hk.elim)
  (λs G A C h hst=>⟨h.1,h.2.1,h.2.2.stp hst⟩)
  (λc s G A C h hst=>by
   obtain⟨hc,q,x,v,lo,hi,h1,h2,h3,⟨o1,o2,o3,o4,o5⟩,h4,h5,h6,h7,h8,h9⟩:=h;refine⟨hc,q,x,v,lo,hi,h1,h2,h3,⟨hst.os.trans o1,hst.tape.trans o2,hst.output.trans o3,qh0 o4 hst.size,λk hk=>(hst.keep k (by omega) (.inl ⟨by omega,by omega⟩)).trans (o5 k hk)⟩,(hst.keep _ (qx h4) (.inl ⟨by omega,by omega⟩)).trans h4,(hst.keep _ (qx h5) (.inl ⟨by omega,by omega⟩)).trans h5,?_,h7,qh0 h8 hst.size,h9⟩;obtain⟨b',c',e,hl,hr⟩:=h6;refine⟨b',c',e,hl,λhne=>?_⟩;obtain⟨B,o,cs,fr,e1,e2,e3,e4,e5⟩:=hr hne;exact⟨B,o,cs,fr,e1,e2,e3,(hst.keep B (by omega) (.inr (h7 B e2 e3))).trans e4,e5⟩)
  ⟨by simp,rfl,Frm.refl _ _⟩
  (λx=>{ tmps:=#[.agg #[.slice yb ps.length yc,lim],.slice base ll.length cap,.pointer (some Y),qgD,.pointer (some (Y+1:Nat)),.pointer (some (Y+1+1:Nat)),x.2,.slice base ll.length cap,.func (.func 149) #[] #[.pointer (some (Y+1+1+1:Nat))],x.2,qgD,qgD,qgD,qgD,qgD],defers:=[] }) ?assign ?body ?done ?stop
 case assign=>
  intro l x W K hK
  gi_wp2
  exact hK
 case body=>
  rintro l pr G x W ⟨b9,rfl,a6⟩ hx -
  have d6:=(a6.keep Y (by omega) (by omega)).trans HY3.out;have e6:=(a6.keep (Y+1) (by omega) (by omega)).trans HR3.out;have e9:=(a6.keep (Y+2) (by omega) (by omega)).trans HB3.out;have g5:qn 0 W.heap.size W (.slice yb ps.length yc) ps:=by
   obtain⟨b',c',e,hl,hr⟩:=l7.out;refine⟨b',c',e,hl,λhne=>?_⟩;obtain⟨B,o,cs,fr,e1,e2,e3,e4,e5⟩:=hr hne;have:=HYe.out;have:=a6.size;exact⟨B,o,cs,fr,e1,e2,by omega,(a6.keep B (by omega) (by omega)).trans e4,e5⟩
  obtain⟨c9,a9⟩:=hx;have b8:=k0 x.1 a9.1 a9.2.1 a9.2.2.1;have hxl:x.1.length<=5:=by have:=a9.1;omega
  obtain⟨x1,x2⟩:=x;obtain⟨xb,xc,d9,-,-⟩:=c9.cell;dsimp only at d9 b8 hxl a9;subst d9;have c1:W.cell? Y=some (.slice yb ps.length yc):=q8 d6 rfl;have c2:W.cell? ⟨Y,1,none⟩=some (.int .i64 lim):=q8 d6 rfl;obtain⟨z,hz⟩:∃z,z=JL ps lim x1:=⟨_,rfl⟩;have e8:qhw Ya 114 #[.agg #[.slice yb ps.length yc,lim],.slice xb x1.length xc] W λe w'=>e=.returned (.bool z)/\W.grownBy w' none:=by
   rw[hz];exact q4i 0 W.heap.size _ _ ps lim x1 W ⟨_,rfl,g5⟩ c9 (qgA _) hok b8
  have ⟨HFC,HZ⟩:=qH e8 hz;have l6:=qgv (show qf 0 W.heap.size W (.slice xb x1.length xc) x1 from c9);have ⟨HX2,HFR,HNO,HRW,HBW⟩:=ZS a9 a6 b9 e6 e9;clear e8 hz c9 a9 a6 b9 e6 e9 d6 g5 b8;cases z with
  | false=>
   gi_wp2_with (refine⟨trivial,?_⟩;gi_at_call 114;refine(CallsIn.inRound l (qjt.2 HFC.out)).mono ?_;rintro e w5 ⟨rfl,b0⟩)
   refine⟨q00,⟨b0.tape,b0.size,λk hk _ _=>b0.block k hk (by simp),λk hk=>hk.elim⟩,?_,rfl,HFR.out.grown b0⟩;intro y hy;rw[qji] at hy;rcases qjv.1 hy with h | h
   ·exact HNO.out y h
   ·have e:y=x1:=by simpa using h
    rw[e,<- HZ.out]
  | true=>
   have m3:=HFR.out.size
   gi_wp2_with (first
    | (refine⟨trivial,?_⟩;gi_at_call 114;refine(CallsIn.inRound l (qjt.2 HFC.out)).mono ?_;rintro e w5 ⟨rfl,b0⟩;have HG5:=qgv b0;clear b0)
    | (refine⟨trivial,?_⟩;gi_at_call 84;refine(CallsIn.inRound l (qjt.2 (Jr 0 w5.heap.size _ x1 w5 ((l6.out.kept HG5.out).mono (qgA _) HG5.out.size) (qgA _) HX2.out.2.2.2 (by omega)))).mono ?_;rintro e w6 ⟨v',rfl,d5,d8⟩;obtain⟨vb,vc,rfl,-,-⟩:=d8.cell;have r6:=bk (HG5.out.trans d5) HRW.out;have b6:=bk (HG5.out.trans d5) HBW.out;have l5:=q8 (o:=0) r6 rfl;have g8:=qm (o:=0) r6;have l4:=q8 (o:=0) b6 rfl;have g7:=qm (o:=0) b6;have HG6:=qgv d5;have HI6:=qgv d8;have HR6:=qgv r6;have l8:=qgv b6;clear d5 d8 r6 b6))
   have m6:=HG5.out.size;have m5:=HG6.out.size;have d7:=HYe.out;obtain⟨C,hC⟩:∃C,C=(w6.setCell (Y+1:Nat) (.slice vb x1.length vc)).setCell (Y+2:Nat) (.bool true):=⟨_,rfl⟩;have eC:(w6.setCell (Y+1:Nat) (.slice vb x1.length vc)).setCell (Y+1+1:Nat) (.bool true)=C:=hC.symm;rw[eC];have b7:∀k,k≠Y+1->k≠Y+2->C.heap[k]?=w6.heap[k]?:=λk k1 k2=>by
    rw[hC];exact(qie _ _ _ k (λe=>k2 e)).trans (qie _ _ _ k (λe=>k1 e))
   have cr:C.heap[Y+1]?=some (.cells #[.slice vb x1.length vc] 29 (0,0)):=by
    rw[hC,qie _ _ _ (Y+1) (λe=>by have e':Y+1=Y+2:=e;omega),qg HR6.out];rfl
   have cb:C.heap[Y+2]?=some (.cells #[.bool true] 4 (0,0)):=by
    rw[hC,qg ((qie _ _ _ (Y+2) (λe=>by have e':Y+2=Y+1:=e;omega)).trans l8.out)];rfl
   have cs:C.heap.size=w6.heap.size:=by rw[hC];simp[qjc]
   have g6:∀k,k<W.heap.size->w6.heap[k]?=W.heap[k]?:=λk hk=>(HG6.out.block k (by omega) (by simp)).trans (HG5.out.block k hk (by simp));refine⟨λk=>w5.heap.size<=k/\k<w6.heap.size,⟨?_,by omega,λk hk hn _=>?_,λk hk=>.inr (by have:=hk.1;omega)⟩,rfl,pr.map ql5,x1,.slice vb x1.length vc,w5.heap.size,w6.heap.size,by simp,HNO.out,HZ.out.symm,⟨?_,?_,?_,by omega,λk hk=>?_⟩,cr,cb,?_,λk h1 h2=>⟨h1,h2⟩,by omega,by omega⟩
   ·rw[hC];exact HG6.out.tape.trans HG5.out.tape
   ·rw[b7 k (by omega) (by omega)];exact g6 k hk
   ·rw[hC];exact(HG6.out.os.trans HG5.out.os).trans HFR.out.os
   ·rw[hC];exact(HG6.out.tape.trans HG5.out.tape).trans HFR.out.tape
   ·rw[hC];exact(HG6.out.output.trans HG5.out.output).trans HFR.out.output
   ·rw[b7 k (by omega) (by omega),g6 k (by omega)];exact HFR.out.keep k (by omega) (by omega)
   ·obtain⟨b',c',e,hl,hr⟩:=HI6.out;refine⟨b',c',e,hl,λhne=>?_⟩;obtain⟨B,o,cs',fr,e1,e2,e3,e4,e5⟩:=hr hne;exact⟨B,o,cs',fr,e1,e2,e3,(b7 B (by omega) (by omega)).trans e4,e5⟩
 case done=>
  rintro D ys G W hD hxs ⟨b9,rfl,a6⟩ hK k9;have r6:=(a6.keep (Y+1) (by omega) (by omega)).trans HR3.out;have b6:=(a6.keep (Y+2) (by omega) (by omega)).trans HB3.out;have l5:=q8 (o:=0) r6 rfl;have g8:=qm (o:=0) r6;have l4:=q8 (o:=0) b6 rfl;have g7:=qm (o:=0) b6;have ⟨HFR,HNO⟩:=qH a6 b9;clear a6 b9
  gi_wp2
  have d7:=HYe.out;obtain⟨C,hC⟩:∃C,C=(W.setCell (Y+1:Nat) (.slice none 0 0)).setCell (Y+2:Nat) (.bool false):=⟨_,rfl⟩;have eC:(W.setCell (Y+1:Nat) (.slice none 0 0)).setCell (Y+1+1:Nat) (.bool false)=C:=hC.symm;rw[eC];have b7:∀k,k≠Y+1->k≠Y+2->C.heap[k]?=W.heap[k]?:=λk k1 k2=>by
   rw[hC];exact(qie _ _ _ k (λe=>k2 e)).trans (qie _ _ _ k (λe=>k1 e))
  have cr:C.heap[Y+1]?=some (.cells #[.slice none 0 0] 29 (0,0)):=by
   rw[hC,qie _ _ _ (Y+1) (λe=>by have e':Y+1=Y+2:=e;omega),qg r6];rfl
  have cb:C.heap[Y+2]?=some (.cells #[.bool false] 4 (0,0)):=by
   rw[hC,qg ((qie _ _ _ (Y+2) (λe=>by have e':Y+2=Y+1:=e;omega)).trans b6)];rfl
  have k7:C.heap[D]?=some (.deferred (some [])):=(b7 D (by omega) (by omega)).trans hK;have hg:=qkn C D (.deferred none);have er:=(hg.block (Y+1) (qx cr) (by simp;omega)).trans cr;have eb:=(hg.block (Y+2) (qx cb) (by simp;omega)).trans cb;have cs:C.heap.size=W.heap.size:=by rw[hC];simp[qjc]
  have hfs:=HFR.out.size;refine⟨by simp,.inl ⟨_,_,rfl,qnu k7,?_⟩⟩;refine⟨.tuple #[.slice none 0 0,.bool false],by simp[qjb,qr2,go_sem,qhs,er,eb],?_,.inr ⟨?_,rfl⟩⟩
  ·refine q1o HG3.out ⟨by rw[hC];exact HFR.out.os,by rw[hC];exact HFR.out.tape,by rw[hC];exact HFR.out.output,by omega,λk hk=>?_⟩ hg (by omega);rw[b7 k (by omega) (by omega)];exact HFR.out.keep k (by omega) (by omega)
  ·rw[<- hxs];exact qlk.2 λy hy=>by rw[HNO.out y hy];simp
 case stop=>
  rintro D c pr G W hD ⟨t,ht⟩ ⟨rfl,h⟩ hK k9;obtain⟨q,x,v,lo,hi,h1,h2,h3,ho,cr,cb,e7,-,h8,h9⟩:=h;have d7:=HYe.out;have hg:=qkn W D (.deferred none);have er:=(hg.block (Y+1) (qx cr) (by simp;omega)).trans cr;have eb:=(hg.block (Y+2) (qx cb) (by simp;omega)).trans cb;have c3:qf w.heap.size (W.putObj D (.deferred none)).heap.size (W.putObj D (.deferred none)) v x:=by
   obtain⟨b',c',e,hl,hr⟩:=e7;refine⟨b',c',e,hl,λhne=>?_⟩;obtain⟨B,o,cs',fr,e1,e2,e3,e4,e5⟩:=hr hne;exact⟨B,o,cs',fr,e1,by omega,qh7 e3 (qh0 h8 hg.size),(hg.block B (by omega) (λe=>by cases e;rw[hK] at e4;cases e4)).trans e4,e5⟩
  obtain⟨vb,vc,rfl,-,-⟩:=c3.cell;have ⟨HIV,HO⟩:=qH c3 ho;have HH:=qgv (qhb h1 (qhb h2 h3));have HT:=qgv ht;clear e7 c3 ho h1 h2 h3 ht
  gi_wp2
  refine⟨by simp,.inl ⟨_,_,rfl,qnu hK,?_⟩⟩;refine⟨.tuple #[.slice vb x.length vc,.bool true],by simp[qjb,qr2,go_sem,qhs,er,eb],?_,.inl ⟨x,_,?_,rfl,HIV.out⟩⟩
  ·exact q1o HG3.out (by rw[<- d7];exact HO.out) hg (by omega)
  ·rw[HT.out,HH.out.1,qjp];rw[List.find?_append,qlk.2 (λy hy=>by rw[HH.out.2.1 y hy];simp)];simp[HH.out.2.2]
end
section
open Go.RowKit
theorem q3F{n:Nat}{x:Int}(h:x∈jD n):0<=x/\x<n:=by
 simp only[jD,ql7,qjq] at h;obtain⟨i,hi,rfl⟩:=h;omega
theorem q2b(n:Nat):(jD n).Pairwise (·<·):=by
 unfold jD;rw[List.pairwise_map];exact List.pairwise_lt_range.imp λh=>by omega
theorem q3w{l:List Int}(h:l.Pairwise (·<·)):l.Nodup:=h.imp λh=>by omega
theorem xX{l:List Int}(a6:l.length<=12)(h:l.Pairwise (·<·)):ZZ l l:=q80 a6 λi hi=>by
 rw[qgG (by omega),qgG hi];exact Int.le_of_lt (List.pairwise_iff_getElem.1 h i (i+1) (by omega) hi (by omega))
def Jg(c:List Int):List (List Int):=zv c c.length []
def q0v(ps:List Par)(lim:Int)(b:Bool × List Int)(c:List Int):Bool × List Int :=
 match (Jg c).find? (JL ps lim) with
 | some p=>(true,if b.1=true/\ZO p b.2=false then b.2 else p)
 | none=>b
def jX(ps:List Par)(lim:Int)(L:List (List Int)):Bool × List Int:=L.foldl (q0v ps lim) (false,[])
theorem xk(ps:List Par)(lim:Int)(L:List (List Int))(c:List Int):jX ps lim (L++[c])=q0v ps lim (jX ps lim L) c:=by simp[jX]
def q7o(ps:List Par)(lim:Int)(B:Nat)(w0:qgx)(done:List (List Int))(G:Nat->Prop)(W:qgx):Prop :=
 G=q00/\w0.grownBy W (some B)/\∃bv,W.heap[B]?=some (.cells #[.func (.func 98) #[] #[],bv,.bool (jX ps lim done).1] 108 (0,0))/\qf 0 W.heap.size W bv (jX ps lim done).2
theorem qf.keptT{lo hi O:Nat}{w w':qgx}{v:qgB}{l:List Int}(h:qf lo hi w v l)(hg:w.grownBy w' (some O)){cs':Array qgB}{e':qh8}{f':Nat × Nat}(hO:w.heap[O]?=some (.cells cs' e' f'))(hne:e'≠3):qf lo hi w' v l:=by
 obtain⟨base,cap,rfl,hl,hr⟩:=h;refine⟨base,cap,rfl,hl,λhn=>?_⟩;obtain⟨B,o,cs,fr,e1,e2,e3,e4,e5⟩:=hr hn;refine⟨B,o,cs,fr,e1,e2,e3,blk hg (λe=>?_) e4,e5⟩;cases e;rw[e4] at hO;cases hO;exact hne rfl
theorem q8g(ps:List Par)(lim:Int)(Y B:Nat)(w0:qgx)(yb:Option qi5)(yc:Nat)(b8:w0.heap[Y]?=some (.cells #[.slice yb ps.length yc,lim] 91 (0,0)))(d6:qn 0 w0.heap.size w0 (.slice yb ps.length yc) ps){d7:Array qgB}{f0:Nat × Nat}(c9:w0.heap[B]?=some (.cells d7 108 f0))(hok:YOk ps lim)(c:List Int)(b6:c.Pairwise (·<·))(hcm:∀x∈c,0<=x/\x<ps.length)(hcl:c.length<=5)(d5:Y≠B)(done:List (List Int))(W:qgx)(hI:q7o ps lim B w0 done q00 W)(v:qgB)(hv:qf 0 W.heap.size W v c) :qhw Ya 101 #[v,.pointer (some Y),.pointer (some B)] W λe W'=>e=.returned (.bool false)/\q7o ps lim B w0 (done++[c]) q00 W'/\W.grownBy W' (some B):=by
 obtain⟨-,a7,bv,hB,b7⟩:=hI;obtain⟨vb,vc,rfl,-,-⟩:=hv.cell;have a9:W.heap[Y]?=some (.cells #[.slice yb ps.length yc,lim] 91 (0,0)):=(a7.block Y (qx b8) (λe=>d5 (by cases e;rfl))).trans b8;have b9:qn 0 W.heap.size W (.slice yb ps.length yc) ps:=by
  obtain⟨b',c',e,hl,hr⟩:=d6;refine⟨b',c',e,hl,λhne=>?_⟩;obtain⟨B',o,cs,fr,e1,e2,e3,e4,e5⟩:=hr hne;cases e;exact⟨B',o,cs,fr,e1,e2,qh7 e3 a7.size,(a7.block B' e3 (λe'=>by cases e';rw[e4] at c9;cases c9)).trans e4,e5⟩
 have c0:W.cell? Y=some (.slice yb ps.length yc):=q8 a9 rfl;have c1:W.cell? ⟨Y,1,none⟩=some (.int .i64 lim):=q8 a9 rfl;have a8:=q8C (.agg #[.slice yb ps.length yc,lim]) (.slice vb c.length vc) ps lim c c W ⟨_,rfl,b9⟩ hv hok (xX (by omega) b6) (λx hx=>by have:=hcm x hx;have:=hok.len;omega) (q3w b6) hcl (λx hl hn hx=>⟨λy hy=>hcm y (hx y hy),hn,by omega⟩);have ⟨HF,HB,HBI,HG0⟩:=zY a8 hB b7 a7;clear a8 hB b7 a7 a9 b9 hv;cases hfd:(zv c c.length []).find? (JL ps lim) with
 | none=>
  rw[hfd] at HF;have b0:=qgv hfd;clear hfd;go_enter Tp.x101,Tryz.ntmps101;go_wp2_with (go_at_call 102;refine(HF.out).mono ?_;rintro e w2 ⟨a6,⟨x,v',hx,-⟩ | ⟨-,rfl⟩⟩;cases hx);go_ret;have hst:q0v ps lim (jX ps lim done) c=jX ps lim done:=by unfold q0v;rw[show(Jg c).find? _=none from b0.out]
  exact⟨rfl,⟨rfl,HG0.out.andThen a6 (by simp),bv,by rw[xk,hst];exact bk a6 HB.out,by rw[xk,hst];exact(HBI.out.kept a6).mono (qgA _) a6.size⟩,(qh1 _ _).andThen a6 (by simp)⟩
 | some p=>
  rw[hfd] at HF;have b0:=qgv hfd;clear hfd;obtain⟨s,hs⟩:∃s,s=(jX ps lim done).1:=⟨_,rfl⟩;rw[<- hs] at HB;have HS:=qgv hs;clear hs;go_enter Tp.x101,Tryz.ntmps101;go_wp2_with (first
   | (go_at_call 102;refine(HF.out).mono ?_;rintro e w2 ⟨a6,⟨x,v',hx,rfl,c3⟩ | ⟨hx,-⟩⟩<;>cases hx;have HG2:=qgv a6;have HIV:=qgv c3;clear a6 c3)
   | (go_at_call 103;refine(q9A B s bv v' (jX ps lim done).2 p w2 (bk HG2.out HB.out) ((HBI.out.kept HG2.out).mono (qgA _) HG2.out.size) (HIV.out.mono (qhx _) (qgA _))).mono ?_;rintro e w3 ⟨rfl,hT⟩;have HT:=qgv hT;clear hT))
  go_ret;have hst:q0v ps lim (jX ps lim done) c=(true,if s=true/\ZO p (jX ps lim done).2=false then(jX ps lim done).2 else p):=by unfold q0v;rw[show(Jg c).find? _=some p from b0.out,HS.out]
  have c8:=bk HG2.out HB.out;have hx:=HBI.out.kept HG2.out;have gW:W.grownBy w3 (some B):=(((qh1 W (some B)).andThen HG2.out (by simp))).andThen HT.out.1 (λj e=>.inr e);have h3:qf 0 w3.heap.size w3 (if s=true/\ZO p (jX ps lim done).2=false then bv else v') (if s=true/\ZO p (jX ps lim done).2=false then(jX ps lim done).2 else p):=by
   have t1:qf 0 w3.heap.size w3 bv (jX ps lim done).2:=(hx.keptT HT.out.1 c8 (by decide)).mono (qgA _) (qh0 HG2.out.size HT.out.1.size);have t2:qf 0 w3.heap.size w3 v' p:=(HIV.out.keptT HT.out.1 c8 (by decide)).mono (qhx _) HT.out.1.size;by_cases hc:s=true/\ZO p (jX ps lim done).2=false
   ·rw[if_pos hc,if_pos hc];exact t1
   ·rw[if_neg hc,if_neg hc];exact t2
  exact⟨rfl,⟨rfl,HG0.out.andThen gW (λj e=>.inr e),_,by rw[xk,hst];exact HT.out.2,by rw[xk,hst];exact h3⟩,gW⟩
theorem POk.nil(ps:List Par){lim:Int}(h:1<=lim):POk ps lim []:=⟨by simp,List.nodup_nil,by simp[qK];omega,by simp⟩
theorem q6z{n:Nat}{c:List Int}(h:c.Sublist (jD n)):c.Pairwise (·<·)/\(∀x∈c,0<=x/\x<n)/\c.length<=n :=
 ⟨(q2b n).sublist h,λx hx=>q3F (h.subset hx),by have:=h.length_le;rwa [zI] at this⟩
theorem qd5{ps:List Par}{lim:Int}{Y B:Nat}{w0:qgx}{yb:Option qi5}{yc:Nat}(a9:w0.heap[Y]?=some (.cells #[.slice yb ps.length yc,lim] 91 (0,0)))(b0:qn 0 w0.heap.size w0 (.slice yb ps.length yc) ps){b7:Array qgB}{f0:Nat × Nat}(a7:w0.heap[B]?=some (.cells b7 108 f0))(hok:YOk ps lim)(a8:Y≠B) :Cb w0.heap.size (jD ps.length) 101 #[.pointer (some Y),.pointer (some B)] (q7o ps lim B w0):=by
 refine⟨?_,?_,enters_of Tp.x101 (by kernel_rfl) rfl,?_⟩
 ·rintro s G A C ⟨rfl,h1,bv,h2,h3⟩ hg;exact⟨rfl,h1.andThen hg (by simp),bv,bk hg h2,(h3.kept hg).mono (qgA _) hg.size⟩
 ·rintro s G A ⟨rfl,-⟩ k hk;exact hk.elim
 ·rintro done G W v c hI hv - a6 -
  obtain⟨h1,h2,h3⟩:=q6z a6;obtain rfl:=hI.1;refine(q8g ps lim Y B w0 yb yc a9 b0 a7 hok c h1 h2 (by have:=hok.len;omega) a8 done W hI v hv).mono ?_;rintro e W' ⟨rfl,b6,hg⟩;have b8:=qx a7;exact⟨rfl,q00,b6,hg.tape,hg.size,λk hk hc _=>hg.block k hk (λe=>by cases e;omega),λk hk=>hk.elim⟩
theorem qaH{ps:List Par}{lim:Int}{Y B:Nat}{w0:qgx}{yb:Option qi5}{yc:Nat}(a7:w0.heap[Y]?=some (.cells #[.slice yb ps.length yc,lim] 91 (0,0)))(a8:qn 0 w0.heap.size w0 (.slice yb ps.length yc) ps)(hok:YOk ps lim)(a6:Y≠B)(hB:w0.heap[B]?=some (.cells #[.func (.func 98) #[] #[],.slice none 0 0,.bool false] 108 (0,0))){b:Option qi5}{k:Nat}(hI:qf 0 w0.heap.size w0 (.slice b ps.length k) (jD ps.length)) :qhw Ya 82 #[.slice b ps.length k,.func (.func 101) #[] #[.pointer (some Y),.pointer (some B)]] w0 λe W'=>e=.returned (.bool false)/\q7o ps lim B w0 (yt (jD ps.length) 0) q00 W':=by
 have hl:ps.length<=5:=hok.len;have h:=qfw (b:=b) (c:=k) (ll:=jD ps.length) (qd5 a7 a8 hB hok a6) (by rw[zI];omega) (xX (by rw[zI];omega) (q2b _)) (by rw[zI];exact hI) (G:=q00) ⟨rfl,qh1 _ _,_,hB,qf.nil _ _ _⟩;rw[zI] at h;refine h.mono ?_;rintro e W' ⟨he,G',h⟩;obtain rfl:=h.1;exact⟨he,h⟩
theorem qb0(pv:qgB)(ps:List Par)(lim:Int)(w:qgx)(hP:qn 0 w.heap.size w pv ps)(hok:YOk ps lim) :qhw Ya 44 #[.agg #[pv,lim]] w λe w'=>∃v,e=.returned (.tuple #[v,.int .i64 0])/\w.grownBy w' none/\qf 0 w'.heap.size w' v (jX ps lim (yt (jD ps.length) 0)).2:=by
 obtain⟨yb,yc,rfl,e6,-⟩:=hP.cell;have ⟨HP,HOK⟩:=qH hP hok;clear hP hok;go_enter Tp.x44,Tryz.ntmps44;go_upto_region 4 with(go_at_call 81;refine(xh 0 w.heap.size _ _ ps lim [] _ (HP.out.kept (qgw _ _ none)) (qf.nil _ _ _) (by simp) HOK.out (POk.nil ps HOK.out.l1)).mono ?_;rintro e w2 ⟨rfl,d6⟩;have HG2:=qgv ((qgw w (.cells #[.slice yb ps.length yc,lim] 24) none).trans d6);clear d6);obtain⟨Y,a9⟩:∃Y,Y=w2.heap.size:=⟨_,rfl⟩;obtain⟨w3,a7⟩:∃w3,w3=w2.alloc (.cells #[.slice yb ps.length yc,lim] 91):=⟨_,rfl⟩;rw[<- a9,<- a7];have c8:w3.heap[Y]?=some (.cells #[.slice yb ps.length yc,lim] 91 (0,0)):=by rw[a7,a9];exact qgF _ _
 have d5:w.grownBy w3 none:=HG2.out.trans (by rw[a7];exact qgw _ _ none);have ⟨HY3,HG3⟩:=qH c8 d5;clear a9 a7 c8 d5;have e7:∀(a:qi5) (fn:Fn) (x y:Array qgB) (m:Mode) (w:qgx),(store a (.func fn x y) m).run Ya w=stored Ya w a (.func fn x y) m:=λa fn x y m w=>run_store _ w a _ m rfl;go_upto_region 5 with(fail);obtain⟨B,b9⟩:∃B,B=w3.heap.size:=⟨_,rfl⟩;obtain⟨w4,a6⟩:∃w4,w4=w3.alloc (.cells #[.func (.func 98) #[] #[],.slice none 0 0,.bool false] 108):=⟨_,rfl⟩;rw[<- b9,<- a6];have d8:w4.heap[B]?=some (.cells #[.func (.func 98) #[] #[],.slice none 0 0,.bool false] 108 (0,0)):=by rw[a6,b9];exact qgF _ _
 have b8:w3.grownBy w4 none:=by rw[a6];exact qgw _ _ none
 have a8:=bk b8 HY3.out;have d9:w.heap.size<=B:=by have:=HG3.out.size;omega
 have ⟨HB4,HY4⟩:=qH d8 a8;have HG4:=qgv (HG3.out.trans b8);have e4:=qgv (show Y≠B by have:=qx HY3.out;omega);have c0:=q8 a8 (o:=0) rfl;have c1:=q8 a8 (o:=1) rfl;clear b9 a6 d8 b8 a8 HY3;have hn:ps.length<=1000:=by have:=HOK.out.len;omega
 go_upto_region 6 with(first
  | (go_at_call 100;refine(Q9 yb ps.length yc lim w4 hn).mono ?_;rintro e w5 ⟨v5,rfl,c9,b7⟩;obtain⟨b5,k5,e5,-,-⟩:=b7.cell;rw[zI] at e5;subst e5;have HG5:=qgv c9;have HI5:=qgv b7;clear c9 b7)
  | (go_at_call 82;refine(qaH (bk HG5.out HY4.out) ((HP.out.kept (HG4.out.trans HG5.out)).mono (qgA _) (HG4.out.trans HG5.out).size) HOK.out e4.out (bk HG5.out HB4.out) (HI5.out.mono (qhx _) (qgA _))).mono ?_;rintro e w6 ⟨rfl,-,c3,bv,d7,b0⟩;obtain⟨b6,k6,rfl,-,-⟩:=b0.cell;have c6:=q8 d7 (o:=1) rfl;have HI6:=qgv b0;have HG6:=qgv c3;clear b0 c3 d7))
 go_wp2;go_ret2;exact⟨_,rfl,xH (HG4.out.trans HG5.out) HG6.out d9,HI6.out⟩
end
section
open Go.RowKit
def zf(lo hi B o:Nat)(w:qgx)(L:List (List Int)):Prop :=
 ∃cs,w.heap[B]?=some (.cells cs 29 (0,0))/\∀i,i<L.length->∃l x,L[i]?=some l/\cs[o+i]?=some x/\qf lo hi w x l
def KR:Nat->List (List Int)->List (List Int)
 | 0,L=>L
 | j+1,L=>match L[j+1]?,L[j]? with
  | some a,some b=>if Qm a b<0 then KR j ((L.set (j+1) b).set j a) else L
  | _,_=>L
def zF(k:Nat)(L:List (List Int)):List (List Int):=(qht k).foldl (λL i=>KR i L) L
theorem xw(k:Nat)(L:List (List Int)):zF (k+1) L=KR k (zF k L):=by simp[zF,qkH]
theorem qan(j:Nat)(L:List (List Int)):(KR j L).length=L.length:=by
 induction j generalizing L with
 | zero=>rfl
 | succ j ih=>
  unfold KR;split
  ·split
   ·rw[ih];simp
   ·rfl
  ·rfl
theorem JI(k:Nat)(L:List (List Int)):(zF k L).length=L.length:=by
 induction k with
 | zero=>rfl
 | succ k ih=>rw[xw,qan,ih]
section
variable{lo hi B o:Nat}{w w':qgx}{L:List (List Int)}
theorem zf.kept{r:Option Nat}(h:zf lo hi B o w L)(hg:w.grownBy w' r)(hr:∀R,r=some R->R≠B/\(R<lo\/hi<=R):=by simp):zf lo hi B o w' L:=by
 obtain⟨cs,h1,h2⟩:=h;refine⟨cs,blk hg (λe=>(hr B e.symm).1 rfl) h1,λi hi=>?_⟩;obtain⟨l,x,a,b,c⟩:=h2 i hi;exact⟨l,x,a,b,c.kept hg λR e=>(hr R e).2⟩
theorem zf.at{k:Nat}(h:zf lo hi B o w L)(hk:k<L.length):∃l xb xc,L[k]?=some l/\w.cell? ⟨B,o+k,none⟩=some (.slice xb l.length xc)/\qf lo hi w (.slice xb l.length xc) l:=by
 obtain⟨cs,h1,h2⟩:=h;obtain⟨l,x,a,b,c⟩:=h2 k hk;obtain⟨xb,xc,rfl,-,-⟩:=c.cell;exact⟨l,xb,xc,a,by simp[qhs,h1,b],c⟩
theorem zf.thaw{k:Nat}(h:zf lo hi B o w L):w.frozen? ⟨B,o+k,none⟩=false:=by
 obtain⟨cs,h1,h2⟩:=h;exact qm h1
theorem qf.setT{v x:qgB}{l:List Int}{k:Nat}{cs:Array qgB}(h:qf lo hi w v l)(hB:w.heap[B]?=some (.cells cs 29 (0,0))):qf lo hi (w.setCell ⟨B,k,none⟩ x) v l:=by
 obtain⟨base,cap,rfl,hl,hr⟩:=h;refine⟨base,cap,rfl,hl,λhn=>?_⟩;obtain⟨C,o,cs',fr,e1,e2,e3,e4,e5⟩:=hr hn;refine⟨C,o,cs',fr,e1,e2,e3,(qie _ _ _ C (λe=>?_)).trans e4,e5⟩;have e:C=B:=e;subst e;rw[e4] at hB;cases hB
theorem zf.step{j:Nat}{y v:qgB}(h:zf lo hi B o w L)(hy:w.cell? ⟨B,o+j,none⟩=some y):(w.setCell ⟨B,o+(j+1),none⟩ v).cell? ⟨B,o+j,none⟩=some y/\(w.setCell ⟨B,o+(j+1),none⟩ v).frozen? ⟨B,o+j,none⟩=false:=by
 obtain⟨cs,h1,-⟩:=h;have g1:(w.setCell ⟨B,o+(j+1),none⟩ v).heap[B]?=some (.cells (cs.setIfInBounds (o+(j+1)) v) 29 (0,0)):=by rw[qg h1]
 have c2:cs[o+j]?=some y:=by simpa[qhs,h1] using hy
 exact⟨q8 g1 (by rw[qif (by omega)];exact c2),qm g1⟩
theorem zf.swap{j:Nat}{a b:List Int}{x y:qgB}(h:zf lo hi B o w L)(ha:L[j+1]?=some a)(hb:L[j]?=some b)(hx:w.cell? ⟨B,o+(j+1),none⟩=some x)(hy:w.cell? ⟨B,o+j,none⟩=some y)(xi:qf lo hi w x a)(yi:qf lo hi w y b) :zf lo hi B o ((w.setCell ⟨B,o+(j+1),none⟩ y).setCell ⟨B,o+j,none⟩ x) ((L.set (j+1) b).set j a):=by
 obtain⟨cs,h1,h2⟩:=h;have g1:(w.setCell ⟨B,o+(j+1),none⟩ y).heap[B]?=some (.cells (cs.setIfInBounds (o+(j+1)) y) 29 (0,0)):=by rw[qg h1]
 have g2:((w.setCell ⟨B,o+(j+1),none⟩ y).setCell ⟨B,o+j,none⟩ x).heap[B]?=some (.cells ((cs.setIfInBounds (o+(j+1)) y).setIfInBounds (o+j) x) 29 (0,0)):=by rw[qg g1]
 obtain⟨a6,-⟩:=qh9.1 ha;have c1:cs[o+(j+1)]?=some x:=by simpa[qhs,h1] using hx
 have c2:cs[o+j]?=some y:=by simpa[qhs,h1] using hy
 have s1:=(qgy.1 c1).1;have s2:=(qgy.1 c2).1;refine⟨_,g2,λi hi=>?_⟩;simp only[qmE] at hi;by_cases e:i=j
 ·subst e;refine⟨a,x,ql8 (by rw[qmE];omega),qk7 (by rw[Array.size_setIfInBounds];omega),(xi.setT h1).setT g1⟩
 ·by_cases e':i=j+1
  ·subst e';refine⟨b,y,by rw[qka (by omega)];exact ql8 (by omega),by rw[qif (by omega)];exact qk7 (by omega),(yi.setT h1).setT g1⟩
  ·obtain⟨l,z,k1,k2,k3⟩:=h2 i hi;refine⟨l,z,by rw[qka (by omega),qka (by omega)];exact k1,by rw[qif (by omega),qif (by omega)];exact k2,(k3.setT h1).setT g1⟩
end
theorem q03(lo hi B o:Nat)(c:Nat)(L:List (List Int))(w:qgx)(hI:zf lo hi B o w L)(hhi:hi<=w.heap.size)(g6:L.length<=1000) :qhw Ya 188 #[.slice (some ⟨B,o,none⟩) L.length c,.int .i64 (0:Nat),L.length,.func (.func 122) #[] #[]] w λe w'=>e=.returned (.tuple #[])/\w.grownBy w' (some B)/\zf lo hi B o w' (zF L.length L):=by
 have HI:=qgv hI;have e7:(L.length:Int)<=1000:=by omega
 clear hI;go_enter Tp.x188,Tryz.ntmps188;go_wp2;go_loopw [8] (λiv wr=>∃k:Nat,iv=.int .i64 (k+1:Nat)/\k<=1000/\w.grownBy wr (some B)/\zf lo hi B o wr (zF (min (k+1) L.length) L)) (λiv _=>(L.length - qi9 iv).toNat)
 case atStart=>exact⟨0,rfl,by omega,qh1 _ _,by
  by_cases h:L.length=0
  ·rw[h];exact HI.out
  ·rw[show min (0+1) L.length=0+1 by omega,xw];exact HI.out⟩
 case round=>
  obtain⟨k,rfl,hk,hG,hR⟩:=hrel;have ⟨HG,HR⟩:=qH hG hR;clear hG hR;by_cases hlt:k+1<L.length
  ·have d7:(k:Int)+1<(L.length:Int):=by omega
   have d6:IntKind.i64.wrap ((k:Int)+1+1)=(k:Int)+1+1:=qhp _ (by omega);have d9:IntKind.i64.wrap ((k:Int)+1)=(k:Int)+1:=qhp _ (by omega);go_wp2;go_loopw [9] (λjv w2=>∃(j:Nat) (Lj:List (List Int)),jv=.int .i64 j/\j<=k+1/\KR (k+1) (zF (min (k+1) L.length) L)=KR j Lj/\Lj.length=L.length/\w.grownBy w2 (some B)/\zf lo hi B o w2 Lj) (λjv _=>(qi9 jv).toNat)
   case atStart=>exact⟨k+1,_,rfl,qgA _,rfl,JI _ _,HG.out,HR.out⟩
   case round=>
    obtain⟨j0,Lj,rfl,hj,hs,b7,b9,b8⟩:=hrel;have ⟨HS2,HLL,HG2,HR2⟩:=zY hs b7 b9 b8;clear hs b7 b9 b8;have hout:KR (k+1) (zF (min (k+1) L.length) L)=Lj->∀w5,w.grownBy w5 (some B)->zf lo hi B o w5 Lj->∃k',qhj .i64 ((k:Int)+1+1)=.int .i64 ((k'+1:Nat):Int)/\k'<=1000/\w.grownBy w5 (some B)/\zf lo hi B o w5 (zF (min (k'+1) L.length) L):=λe w5 h1 h2=>
     ⟨k+1,by simp,by omega,h1,by rw[show min (k+1+1) L.length=(k+1)+1 by omega,xw,<- show min (k+1) L.length=k+1 by omega,show min (k+1) L.length=k+1 by omega];rw[show min (k+1) L.length=k+1 by omega] at e;rw[e];exact h2⟩
    have a8:=qgv hout;clear hout;cases j0 with
    | zero=>
     go_wp2_with (fail);go_quiet (fail);go_wp2;go_roundw
     case rel=>exact a8.out HS2.out _ (HG2.out.andThen (qi _ _ none) (by simp)) (HR2.out.kept (qi _ _ none))
     case measure=>simp[qi9];omega
    | succ j=>
     obtain⟨a,xb,xc,ha,x1,xi⟩:=HR2.out.at (k:=j+1) (by have:=HLL.out;omega);obtain⟨b,yb,yc,hb,y1,yi⟩:=HR2.out.at (k:=j) (by have:=HLL.out;omega);have z1:=HR2.out.thaw (k:=j+1);have z0:=HR2.out.thaw (k:=j);have a7:KR (j+1) Lj=if Qm a b<0 then KR j ((Lj.set (j+1) b).set j a) else Lj:=by
      show(match Lj[j+1]?,Lj[j]? with | some a,some b=>_ | _,_=>_)=_;rw[ha,hb]
     have b0:=λC (h:World.grownBy _ C none)=>JO lo hi lo hi _ _ a b C (xi.kept h) (yi.kept h);generalize Qm a b=z at a7 b0;have c8:=qgv b0;have e4:IntKind.i64.wrap (j:Int)=(j:Int):=qhp _ (by omega);have e6:((j:Int)+1).toNat=j+1:=by omega
     have e9:(j:Int)+1<(L.length:Int):=by omega
     have d8:(j:Int)<(L.length:Int):=by omega
     have g5:(0:Int)<=(j:Int)+1:=by omega
     have e8:(0:Int)<(j:Int)+1:=by omega
     have e5:(j:Int)+1 - 1=(j:Int):=by omega
     have XI:=qgv (qhb xi yi);have E:=qgv (qhb ha hb);clear b0 xi yi ha hb;by_cases hz:z<0
     ·rw[if_pos hz] at a7;have HSI:=qgv a7;clear a7;go_wp2_with (fail);go_quiet (first | (go_at_call 122;refine qiH ((c8.out _ (qi _ _ none)).mono (λe w5 h=>⟨h.1,h.2.symm⟩))));go_upto_region 6 with(fail);have a9:=qi wr nq none;generalize wr.drewN nq=wa at a9 ⊢;have hgb:wr.grownBy wa.drew none:=a9.trans (qc wa none);have RA:=HR2.out.kept hgb;have x2:=hgb.cl x1;have y2:=hgb.cl y1;have c9:=qgv (RA.swap E.out.1 E.out.2 x2 y2 (XI.out.1.kept hgb) (XI.out.2.kept hgb));have d5:=qgv (((HG2.out.andThen hgb (by simp)).andThen (qe _ B (o+(j+1)) (.slice yb b.length yc)) (λj e=>.inr e)).andThen (qe _ B (o+j) (.slice xb a.length xc)) (λj e=>.inr e));have z2:=RA.thaw (k:=j+1);have z3:=RA.thaw (k:=j);have b6:=RA.step (v:=.slice yb b.length yc) y2;have c3:=qgv b6;have z4:=b6.2;clear RA b6 x1 y1 z1 z0 a9 hgb;refine qJ 16 (λw'=>w'.cell? ⟨B,o+j,none⟩=some (.slice yb b.length yc)/\w'.frozen? ⟨B,o+j,none⟩=false) (by kernel_rfl) (by kernel_rfl) ⟨y2,z3⟩ (λa6=>?_);simp only[qh3,qhc,qhk,qii,qhf,qhq,qhr,qhC,qho,qhe];refine tk 0 (h:=tk 1 (h:=tk 2 (h:=tk 3 (h:=tk 4 (h:=tk 5 (h:=tk 6 (h:=tk 7 (h:=tk 8 (h:=tk 9 (h:=tk 10 (h:=tk 11 (h:=tk 12 (h:=?_)))))))))))));try go_frame
      refine rdc 13 λK hK=>?_;go_simp;refine hK.out _ _ (by first | exact a6 | exact⟨y2,z3⟩ | exact c3.out) (λa6=>?_);refine tk 14 (h:=?_);try go_frame
      refine rdc 15 λK hK=>?_;go_simp;refine hK.out _ _ (by first | exact a6 | exact⟨y2,z3⟩ | exact c3.out) (λa6=>?_);try go_frame
      refine⟨by kernel_rfl,?_⟩;simp only[qhu,qia];go_wp2;refine⟨?_,?measure⟩
      repeat apply Exists.intro
      refine⟨?rel,rfl⟩
      case rel=>exact⟨j,_,rfl,by omega,HS2.out.trans HSI.out,by simp[HLL.out],d5.out,c9.out⟩
      case measure=>simp[qi9]
     ·rw[if_neg hz] at a7;have HSI:=qgv a7;clear a7;go_wp2_with (fail);go_quiet (first | (go_at_call 122;refine qiH ((c8.out _ (qi _ _ none)).mono (λe w5 h=>⟨h.1,h.2.symm⟩))));go_wp2;refine⟨?_,?measure⟩
      repeat apply Exists.intro
      refine⟨?rel,rfl⟩
      case rel=>exact a8.out (HS2.out.trans HSI.out) _ (HG2.out.andThen (qi _ _ none) (by simp)) (HR2.out.kept (qi _ _ none))
      case measure=>simp[qi9];omega
  ·have he:min (k+1) L.length=L.length:=by omega
   rw[he] at HR;go_wp2;go_end0;exact⟨rfl,HG.out,HR.out⟩
end
section
open Go.RowKit
theorem qd2(lo hi B o c:Nat)(L:List (List Int))(lim:Int)(w:qgx)(hI:zf lo hi B o w L)(hhi:hi<=w.heap.size)(a6:L.length<=12) :qhw Ya 155 #[.slice (some ⟨B,o,none⟩) L.length c,.int .i64 (0:Nat),L.length,lim,.func (.func 122) #[] #[]] w λe w'=>e=.returned (.tuple #[])/\w.grownBy w' (some B)/\zf lo hi B o w' (zF L.length L):=by
 have HI:=qgv hI;clear hI;go_enter Tp.x155,Tryz.ntmps155;go_wp2;go_loopw [1,2,3] (λa b c wr=>a=.int .i64 (0:Nat)/\b=.int .i64 L.length/\c=.int .i64 lim/\w=wr) (λ_ _ _ _=>0)
 case atStart=>exact⟨rfl,rfl,rfl,rfl⟩
 case round=>
  obtain⟨rfl,rfl,rfl,rfl⟩:=hrel;have h1:IntKind.i64.wrap (L.length:Int)=(L.length:Int):=qhp _ (by omega);have h2:(L.length:Int)<=12:=by omega
  go_wp2_with (go_at_call 188;refine(q03 lo hi B o c L _ HI.out hhi (by omega)).mono ?_;rintro e w2 ⟨rfl,hg,hr⟩);refine qj8 (results_none rfl _ _ _) rfl ?_;exact⟨rfl,hg,hr⟩
theorem qaj(lo hi B o c:Nat)(L:List (List Int))(w:qgx)(hI:zf lo hi B o w L)(hhi:hi<=w.heap.size)(a6:L.length<=12) :qhw Ya 121 #[.slice (some ⟨B,o,none⟩) L.length c,.func (.func 122) #[] #[]] w λe w'=>e=.returned (.tuple #[])/\w.grownBy w' (some B)/\zf lo hi B o w' (zF L.length L):=by
 have HI:=qgv hI;have hw:IntKind.u64.wrap (L.length:Int)=(L.length:Int):=by simp[IntKind.wrap,IntKind.signed,IntKind.bits];omega
 clear hI;go_enter Tp.x121,Tryz.ntmps121;go_wp2_with (first
  | (go_at_call 156;refine(JQ L.length a6 _).mono ?_;rintro e w2 ⟨v,rfl,rfl⟩)
  | (go_at_call 155;refine(qd2 lo hi B o c L _ _ HI.out hhi a6).mono ?_;rintro e w2 ⟨rfl,hg,hr⟩))
 go_end0;exact⟨rfl,hg,hr⟩
theorem q0F(lo hi:Nat)(v:qgB)(l:List Int)(w:qgx)(hI:qf lo hi w v l)(h5:∀x∈l,0<=x/\x<5) :qhw Ya 123 #[v] w λe w'=>e=.returned (.int .u8 (zc l:Nat))/\w=w':=by
 obtain⟨b,c,rfl,b0,hc⟩:=hI.cell;have ⟨HC,H5⟩:=qH hc h5;clear hc h5 hI;go_enter Tp.x123,Tryz.ntmps123;go_wp2;go_loopw [3,9] (λsv iv wr=>∃k:Nat,iv=.int .i64 k/\sv=.int .u8 (zc (l.take k):Nat)/\k<=l.length/\w=wr) (λ_ iv _=>(l.length - qi9 iv).toNat)
 case atStart=>exact⟨0,rfl,rfl,by omega,rfl⟩
 case round=>
  obtain⟨k,rfl,rfl,hk,rfl⟩:=hrel;by_cases hlt:k<l.length
  ·obtain⟨B,o,rfl,b8,b7,b6,a6⟩:=HC.out (by intro e;rw[e] at hlt;simp at hlt);obtain⟨x,hx⟩:∃x,l[k]?=some x:=⟨_,qgG hlt⟩;have x1:=a6 k hlt;rw[hx] at x1;simp only[qgH] at x1;obtain⟨a9,a8⟩:=H5.out x (qhg hx);obtain⟨n,rfl⟩:∃n:Nat,x=(n:Int):=⟨x.toNat,by omega⟩;have hm:zc (l.take k)<32:=xm _ 5 λy hy=>by have:=H5.out y (qlr hy);omega
   have hs:=Jj l k n hx;have a7:(k:Int)<(l.length:Int):=by omega
   generalize zc (l.take k)=m at hm hs ⊢;have HS:=qgv hs;clear hs a6 hx;go_wp2_with (go_at_call 151;refine(Zu m n _ hm (by omega)).mono ?_;rintro e w2 ⟨rfl,rfl⟩);go_roundw
   case rel=>exact⟨k+1,by simp,by rw[HS.out,Int.toNat_natCast],by omega,by first | rfl | trivial⟩
   case measure=>simp[qi9];omega
  ·obtain rfl:k=l.length:=by omega
   go_wp2;go_ret;exact⟨by rw[qis];rfl,by first | rfl | trivial⟩
end
section
open Go.RowKit Go.Shelf
attribute [local go_sem] Oper.semAt_some
def q3q(ps:List Par)(c:List Int):List (List Int):=(Jg c).filter λo=>!o.isEmpty && qz ps (pre Par.mx ps ps.length) o
def vI(ps:List Par)(L:List (List Int)):List (List Int):=L.flatMap (q3q ps)
theorem q5v(ps:List Par)(L:List (List Int))(c:List Int):vI ps (L++[c])=vI ps L++q3q ps c:=by simp[vI]
def qeh(n0:Nat)(L:List (List Int))(vals:List qgB)(G:Nat->Prop)(W:qgx):Prop :=
 ∀i,i<L.length->∃l x,L[i]?=some l/\vals[i]?=some x/\qf n0 W.heap.size W x l/\∀B o n c,x=.slice (some ⟨B,o,none⟩) n c->l≠[]->G B
structure J2(Sg:Nat)(w0:qgx)(L:List (List Int))(G:Nat->Prop)(W:qgx):Prop where
 os:W.os=w0.os
 tape:W.tape=w0.tape
 output:W.output=w0.output
 size:w0.heap.size<=W.heap.size
 keep:∀k,k<w0.heap.size->k≠Sg->W.heap[k]?=w0.heap[k]?
 lt:∀k,G k->w0.heap.size<=k/\k<W.heap.size
 sl:Sg<w0.heap.size
 sg:∃sv vals,W.heap[Sg]?=some (.cells #[sv] 36 (0,0))/\W.ownsRow w0.heap.size 29 1 sv L.length vals/\(∀g,sv.ownBlock=some g->G g)/\qeh w0.heap.size L vals G W
theorem q1i{lo:Nat}{A C:qgx}{x:qgB}{l:List Int}(h:qf lo A.heap.size A x l)(hs:A.heap.size<=C.heap.size)(hk:∀B o n c,x=.slice (some ⟨B,o,none⟩) n c->l≠[]->C.heap[B]?=A.heap[B]?):qf lo C.heap.size C x l:=by
 obtain⟨base,cap,rfl,hl,hr⟩:=h;refine⟨base,cap,rfl,hl,λhne=>?_⟩;obtain⟨B,o,cs,fr,e1,e2,e3,e4,e5⟩:=hr hne;exact⟨B,o,cs,fr,e1,e2,by omega,(hk B o _ _ (by rw[e1]) hne).trans e4,e5⟩
theorem jL{lo e sz:Nat}{A C:qgx}{v:qgB}{n:Nat}{xs:List qgB}(h:A.ownsRow lo e sz v n xs)(hk:∀g,v.ownBlock=some g->C.heap[g]?=A.heap[g]?):C.ownsRow lo e sz v n xs:=by
 obtain⟨h1,h2⟩:=h;refine⟨h1,?_⟩;rcases h2 with h2 | ⟨g,cap,cur,rfl,hb,hg,hr⟩
 ·exact .inl h2
 ·exact .inr ⟨g,cap,cur,rfl,hb,(hk g (by simp[qhB])).trans hg,hr⟩
theorem J8{n1 B:Nat}{G:Nat->Prop}{A C:qgx}(hg:A.grownBy C none):Stp n1 B G A C:=⟨hg.os,hg.tape,hg.output,hg.size,λk hk _=>hg.block k hk (by simp)⟩
theorem J2.stp{Sg:Nat}{w0:qgx}{L:List (List Int)}{G:Nat->Prop}{A C:qgx}{n1 B:Nat}(h:J2 Sg w0 L G A)(hs:Stp n1 B G A C)(hn:w0.heap.size<=n1)(hB:w0.heap.size<=B):J2 Sg w0 L G C:=by
 have a6:=h.sl;have hsz:=h.size;have a7:=hs.size;have hk:∀k,k<w0.heap.size->C.heap[k]?=A.heap[k]?:=λk hk=>hs.keep k (by omega) (.inl ⟨by omega,by omega⟩);obtain⟨sv,vals,h1,h2,h3,h4⟩:=h.sg;refine⟨hs.os.trans h.os,hs.tape.trans h.tape,hs.output.trans h.output,by omega,λk hk' hne=>(hk k hk').trans (h.keep k hk' hne),λk hg=>⟨(h.lt k hg).1,by have:=(h.lt k hg).2;omega⟩,a6,sv,vals,(hk Sg a6).trans h1,jL h2 λg e=>hs.keep g (h.lt g (h3 g e)).2 (.inr (h3 g e)),h3,λi hi=>?_⟩;obtain⟨l,x,e1,e2,e3,e4⟩:=h4 i hi;exact⟨l,x,e1,e2,q1i e3 a7 λB o n c e hne=>hs.keep B (h.lt B (e4 B o n c e hne)).2 (.inr (e4 B o n c e hne)),e4⟩
theorem J2.push{Sg:Nat}{w0:qgx}{L:List (List Int)}{G:Nat->Prop}{W E C:qgx}{sv v':qgB}{vals:List qgB}{x:qgB}{l:List Int}(h:J2 Sg w0 L G W)(h1:W.heap[Sg]?=some (.cells #[sv] 36 (0,0)))(h2:W.ownsRow w0.heap.size 29 1 sv L.length vals)(h3:∀g,sv.ownBlock=some g->G g)(h4:qeh w0.heap.size L vals G W)(hE:W.grownBy E sv.ownBlock)(hown:E.ownsRow w0.heap.size 29 1 v' (L.length+1) (vals++[x]))(hv:∀g,v'.ownBlock=some g->sv.ownBlock=some g\/W.heap.size<=g)(a8:∀g,v'.ownBlock=some g->g<E.heap.size)(hx:qf W.heap.size E.heap.size E x l)(hC:C=E.setCell Sg v') :J2 Sg w0 (L++[l]) (λk=>G k\/(W.heap.size<=k/\k<C.heap.size)) C/\∀n B,Sg<n->Sg≠B->Bod n B G (λk=>G k\/(W.heap.size<=k/\k<C.heap.size)) W C:=by
 have h5:vals.length=L.length:=by have:=h2.1;omega
 have a7:∀y m g,sv.ownBlock=some g->qf w0.heap.size W.heap.size W y m->∀B o n c,y=.slice (some ⟨B,o,none⟩) n c->m≠[]->B≠g:=by
  rintro y m g hg ⟨base,cap,rfl,hl,hr⟩ B o n c e hne rfl;obtain⟨B',o',cs,fr,e1,e2,e3,e4,e5⟩:=hr hne;cases e;cases e1;rcases h2.2 with⟨rfl,_⟩ | ⟨g',cap',cur,rfl,hb,hgb,_⟩
  ·simp[qhB] at hg
  ·obtain rfl:g'=B:=by simpa[qhB] using hg
   rw[hgb] at e4;cases e4
 have b0:=h.sl;have hsz:=h.size;have hes:=hE.size;have a6:=qe E Sg 0 v';rw[<- hC] at a6;have hcs:C.heap.size=E.heap.size:=by rw[hC];simp[qjc]
 have b8:E.heap[Sg]?=some (.cells #[sv] 36 (0,0)):=(hE.block Sg (by omega) (λe=>by have:=(h.lt _ (h3 _ e.symm)).1;omega)).trans h1;have b7:C.heap[Sg]?=some (.cells #[v'] 36 (0,0)):=by rw[hC,qg b8];rfl
 have hk:∀k,k<W.heap.size->k≠Sg->sv.ownBlock≠some k->C.heap[k]?=W.heap[k]?:=λk hk hne a7=>(a6.block k (by omega) (by intro e;cases e;exact hne rfl)).trans (hE.block k hk (λe=>a7 e.symm));refine⟨⟨a6.os.trans (hE.os.trans h.os),a6.tape.trans (hE.tape.trans h.tape),a6.output.trans (hE.output.trans h.output),by omega,λk hk' hne=>?_,λk hg=>?_,b0,v',vals++[x],b7,?_,λg e=>?_,λi hi=>?_⟩,λn B hn hB=>⟨a6.tape.trans hE.tape,by omega,λk hk' hc hg=>?_,λk hg=>hg.imp id λe=>e.1⟩⟩
 ·rw[hk k (by omega) hne (λe=>by have:=(h.lt _ (h3 _ e)).1;omega)];exact h.keep k hk' hne
 ·rcases hg with hg | hg
  ·exact⟨(h.lt k hg).1,by have:=(h.lt k hg).2;omega⟩
  ·omega
 ·rw[qio,qno];exact jL hown λg e=>a6.block g (a8 g e) (by
   intro e';cases e';rcases hv _ e with h' | h'
   ·have:=(h.lt _ (h3 _ h')).1;omega
   ·omega)
 ·rcases hv g e with h' | h'
  ·exact .inl (h3 g h')
  ·exact .inr ⟨h',by have:=a8 g e;omega⟩
 ·by_cases a9:i<L.length
  ·obtain⟨m,y,e1,e2,e3,e4⟩:=h4 i a9;refine⟨m,y,by rw[qhz a9];exact e1,by rw[qhz (by omega)];exact e2,q1i e3 (by omega) λB o n c e hne=>hk B (h.lt B (e4 B o n c e hne)).2 (λe'=>by have:=(h.lt B (e4 B o n c e hne)).1;omega) (λe'=>a7 y m _ e' e3 B o n c e hne rfl),λB o n c e hne=>.inl (e4 B o n c e hne)⟩
  ·have b6:i=L.length:=by simp at hi;omega
   subst b6;refine⟨l,x,by simp,by rw[<- h5];simp,?_,λB o n c e hne=>.inr ?_⟩
   ·obtain⟨base,cap,rfl,hl,hr⟩:=hx;refine⟨base,cap,rfl,hl,λhne=>?_⟩;obtain⟨B,o,cs,fr,e1,e2,e3,e4,e5⟩:=hr hne;exact⟨B,o,cs,fr,e1,by omega,by omega,(a6.block B (by omega) (by intro e;cases e;omega)).trans e4,e5⟩
   ·obtain⟨base,cap,rfl,hl,hr⟩:=hx;obtain⟨B',o',cs,fr,e1,e2,e3,e4,e5⟩:=hr hne;cases e;cases e1;omega
 ·refine hk k hk' (λe=>by rcases hc with h' | h'<;>omega) (λe=>hg (h3 k e))
end
section
open Go.RowKit Go.Shelf
attribute [local go_sem] Oper.semAt_some
theorem Tp.info29p:(Ya.info? 29).map (λi=>(i.zero,i.size,i.bytes))=some (some (.slice none 0 0),1,24):=by kernel_rfl
theorem Tp.und36:Ya.underlying 36=some (.slice 29):=by rw[Tp.und];exact Tryz.underlying36
theorem qbl(ps:List Par)(lim:Int)(Y Sg:Nat)(w0:qgx)(yb:Option qi5)(yc:Nat)(c9:w0.heap[Y]?=some (.cells #[.slice yb ps.length yc,lim] 91 (0,0)))(m6:qn 0 w0.heap.size w0 (.slice yb ps.length yc) ps){m9:Array qgB}{f0:Nat × Nat}(e8:w0.heap[Sg]?=some (.cells m9 36 f0))(hok:YOk ps lim)(c:List Int)(g8:c.Pairwise (·<·))(hcm:∀x∈c,0<=x/\x<ps.length)(hcl:c.length<=5)(l7:∀x:List Int,x.length=c.length->x.Nodup->(∀y∈x,y∈c)->POk ps lim x)(L0:List (List Int))(hL:L0.length+(Jg c).length<=1000)(G0:Nat->Prop)(W0:qgx)(hI:J2 Sg w0 L0 G0 W0)(v:qgB)(hv:qf 0 W0.heap.size W0 v c) :qhw Ya 120 #[v,.pointer (some Y),.pointer (some Sg)] W0 λe W'=>e=.returned (.bool false)/\∃G',J2 Sg w0 (L0++q3q ps c) G' W'/\Bod w0.heap.size w0.heap.size G0 G' W0 W':=by
 obtain⟨i0,m4,l4,k9,k8⟩:=qjj Tp.info29p;obtain⟨base,cap,rfl,p5,-⟩:=hv.cell;have m5:Y≠Sg:=λe=>by rw[e,e8] at c9;cases c9
 obtain⟨gx,d9⟩:∃gx,gx=pre Par.mx ps ps.length:=⟨_,rfl⟩;obtain⟨Bl,c3⟩:∃Bl,Bl=W0.heap.size:=⟨_,rfl⟩;have l6:q3q ps c=(Jg c).filter λo=>!o.isEmpty && qz ps gx o:=by rw[d9];rfl
 rw[l6];have n9:=hI.size;refine(qjt (n:=6)).1 ?_;refine qo4 Tp.x120 rfl trivial ?_ rfl;simp only[Tryz.ntmps120,qhn,qh3,qhc,qhk,qii,qhq,qhr,qhC,qkh,qho,qhe]
 gi_wp2_with (refine⟨trivial,?_⟩;gi_at_call 117;refine(qjt.2 (YT _ _ _ _)).mono ?_;rintro e w2 ⟨rfl,rfl⟩)
 obtain⟨w3,b0⟩:∃w3,w3=W0.alloc (.cells #[.slice base c.length cap] 29):=⟨_,rfl⟩;rw[<- b0,<- c3];have b9:W0.grownBy w3 none:=by rw[b0];exact qgw _ _ none
 have p3:w3.heap.size=Bl+1:=by rw[b0,qh6,c3]
 have l3:w3.heap[Bl]?=some (.cells #[.slice base c.length cap] 29 (0,0)):=by rw[b0,c3];exact qgF _ _
 have m7:=(hv.kept b9).mono (qgA _) b9.size;have n8:=hI.sl;have m8:J2 Sg w0 L0 G0 w3:=hI.stp (J8 (n1:=w0.heap.size) (B:=w0.heap.size) b9) (qgA _) (qgA _);have m3:¬ G0 Bl:=λh=>by have:=(hI.lt _ h).2;omega
 have n7:w0.heap.size<=Bl:=by omega
 have n6:W0.heap.size<=Bl:=by omega
 have ⟨HGX,HBL,HI,HG3,HL⟩:=ZS d9 c3 hI b9 hL;clear d9 c3 b0 hv b9 hL;refine vw rfl (by omega) (gf:=149) (lb:=#[.pointer (some Bl)]) rfl trivial (enters_of Tp.x149 (by kernel_rfl) rfl)
  (ZJ 5 Bl base cap c c (xX (by omega) g8) (λx hx=>by have:=hcm x hx;have:=hok.len;omega) (q3w g8) hcl w3 l3 m7) (qn2 _ _) (λ_=>rfl) (G0:=G0) m3 (by omega) (q6t)
  (λpr G W=>J2 Sg w0 (L0++(pr.map ql5).filter λo=>!o.isEmpty && qz ps gx o) G W/\Bod w0.heap.size w0.heap.size G0 G W0 W)
  (λ_ _ _ _=>False)
  (λs G A h k hk=>(h.1.lt k hk).2)
  (λs G A C h hst=>⟨h.1.stp hst (by omega) (by omega),hst.tape.trans h.2.tape,qh0 h.2.size hst.size,λk hk hc hg=>(hst.keep k (qh7 hk h.2.size) (.inl ⟨by have:=HBL.out;omega,by have:=HBL.out;omega⟩)).trans (h.2.keep k hk hc hg),h.2.fp⟩)
  (λ_ _ _ _ _ h _=>h)
  ⟨by simpa using m8,jP HG3.out⟩
  (λx=>{ tmps:=#[.slice base c.length cap,.pointer (some Y),.pointer (some Sg),qgD,.bool false,x.2,.slice base c.length cap,.func (.func 149) #[] #[.pointer (some Bl)],x.2,qgD,qgD,qgD,qgD,qgD,qgD,qgD,qgD,qgD,qgD,qgD,qgD,qgD],defers:=[] }) ?assign ?body ?done ?stop
 case assign=>
  intro l x W K hK
  gi_wp2
  exact hK
 case body=>
  rintro l pr G x W ⟨hf,hb⟩ hx ⟨t,ht⟩;have b8:(L0++(pr.map ql5).filter λo=>!o.isEmpty && qz ps gx o).length<=1000:=by
   have h1:=qk5 (λo=>!o.isEmpty && qz ps gx o) (pr.map ql5);have h2:=congrArg List.length ht;have h3:=HL.out;unfold Jg at h3;simp only[qio,qkw,qno] at h1 h2 ⊢;omega
  have hsz:=hf.size;have d7:=(hf.keep Y (qx c9) m5).trans c9;have k5:qn 0 W.heap.size W (.slice yb ps.length yc) ps:=by
   obtain⟨b',c',e,hl,hr⟩:=m6;refine⟨b',c',e,hl,λhne=>?_⟩;obtain⟨B,o,cs,fr,e1,e2,e3,e4,e5⟩:=hr hne;exact⟨B,o,cs,fr,e1,e2,by omega,(hf.keep B e3 (λe=>by cases e;rw[e4] at e8;cases e8)).trans e4,e5⟩
  obtain⟨c8,a8⟩:=hx;have b6:=l7 x.1 a8.1 a8.2.1 a8.2.2.1;have hxl:x.1.length<=5:=by have:=a8.1;omega
  obtain⟨x1,x2⟩:=x;obtain⟨xb,xc,g6,-,-⟩:=c8.cell;dsimp only at g6 b6 hxl a8;subst g6;have c1:W.cell? Y=some (.slice yb ps.length yc):=q8 d7 rfl;have c2:W.cell? ⟨Y,1,none⟩=some (.int .i64 lim):=q8 d7 rfl;obtain⟨z,hz⟩:∃z,z=qz ps gx x1:=⟨_,rfl⟩;have h9:qhw Ya 114 #[.agg #[.slice yb ps.length yc,lim],.slice xb x1.length xc] W λe w'=>e=.returned (.bool z)/\W.grownBy w' none:=by
   rw[hz,HGX.out];exact q2j 0 W.heap.size _ _ ps lim x1 W ⟨_,rfl,k5⟩ c8 (qgA _) hok b6
  have ⟨HFC,HZ⟩:=qH h9 hz;have n2:=qgv (show qf 0 W.heap.size W (.slice xb x1.length xc) x1 from c8);have ⟨HX2,HF,HB,HLP⟩:=zY a8 hf hb b8;clear h9 hz c8 a8 hf hb d7 k5 b6 ht b8;by_cases hne:x1=[]
  ·subst hne
   gi_wp2
   refine⟨trivial,?_⟩
   gi_wp2
   refine⟨G,jP (qh1 _ _),?_,HB.out⟩;rw[qji,qn3];simpa using HF.out
  ·have n4:0<x1.length:=ql4.2 hne;have h8:x1.isEmpty=false:=by cases x1<;>simp_all
   have HNE:=qgv hne;clear hne;cases z with
   | false=>
    gi_wp2_with (refine⟨trivial,?_⟩;gi_at_call 114;refine(CallsIn.inRound l (qjt.2 HFC.out)).mono ?_;rintro e w5 ⟨rfl,a9⟩)
    refine⟨G,jP a9,?_,HB.out.trans (jP a9)⟩;rw[qji,qn3];simpa[h8,<- HZ.out] using HF.out.stp (J8 (n1:=w0.heap.size) (B:=w0.heap.size) a9) (qgA _) (qgA _)
   | true=>
    obtain⟨sv,vals,q1,q2,q3,q4⟩:=HF.out.sg;generalize e9:(L0++(pr.map ql5).filter λo=>!o.isEmpty && qz ps gx o)=LL at q2 q4;rw[e9] at HF HLP;have n3:=qgv e9;clear e9;obtain⟨sa,sn,sc,rfl⟩:=zt q2;have p4:=HLP.out;have k0:Sg<W.heap.size:=by omega
    have l9:(qi1 sa sn sc).ownBlock≠some Sg:=λe=>by have:=(HF.out.lt _ (q3 _ e)).1;omega
    gi_wp2_with (refine⟨trivial,?_⟩;gi_at_call 114;refine(CallsIn.inRound l (qjt.2 HFC.out)).mono ?_;rintro e w5 ⟨rfl,a9⟩;have HG5:=qgv (a9.trans (qc w5 none));clear a9)
    have s0:w5.drew.cell? Sg=some (.slice sa sn sc):=q8 (bk HG5.out q1) rfl;have ⟨HQ1,HQ2,HQ3,HQ4⟩:=zY q1 q2 q3 q4;clear q1 q2 q3 q4;refine KI (by rintro⟨_,_,h⟩;exact h) (by kernel_rfl) 5 (λw'=>w'.cell? Sg=some (.slice sa sn sc)) (by kernel_rfl) (by kernel_rfl) s0 (λa7=>?_);simp only[qh3,qhc,qhk,qii,qhf,qhq,qhr,qhC,qho,qhe];refine tk 0 (h:=tk 1 (h:=?_));try go_frame
    refine rdc 2 λK hK=>?_;go_simp;go_at_call 84;refine(Jr 0 w5.drew.heap.size _ x1 _ ((n2.out.kept HG5.out).mono (qgA _) HG5.out.size) (qgA _) (.inl HNE.out) (by omega)).mono ?_;rintro e w6 ⟨v',rfl,e7,g5⟩;obtain⟨vb,vc,rfl,-,-⟩:=g5.cell;have s6:=e7.cl s0;have ⟨HG6,HI6⟩:=qH e7 g5;clear e7 g5;refine hK.out _ _ (by first | exact a7 | exact s7 | exact s6 | exact(qgw _ _ none).cl a7) (λa7=>?_);clear hK K;try go_frame
    refine rdc 3 λK hK=>?_;go_simp;refine hK.out _ _ (by first | exact a7 | exact s7 | exact s6 | exact(qgw _ _ none).cl a7) (λa7=>?_);clear hK K;try go_frame
    refine rdc 4 λK hK=>?_;have k6:=jL (C:=w6) HQ2.out (λg e=>(HG5.out.trans HG6.out).block g (HF.out.lt g (HQ3.out g e)).2 (by simp));refine step_append_lies _ (by rfl) _ _ _ (by rfl) w0.heap.size 29 i0 _ 1 24 Tp.und36 m4 l4 k9 k8 rfl (by omega) (.slice sa sn sc) LL.length vals (by rfl) (by exact k6.alloc _) ⟨w6.heap.size,0,none⟩ 1 1 [.slice vb x1.length vc] (by rfl) (by rfl) (qiw (cs:=#[.slice vb x1.length vc]) (t:=29) (fr:=(0,0)) (qgF w6 _)) (by simp[qjk]) (by omega) (by unfold qkq;omega) (by omega) (by have:=HG5.out.size;have:=HG6.out.size;simp;omega) (w6.heap.size+1) (by simp) ?_;intro g' cp w7 b7 a6 d6 d5;have e6:W.grownBy w7 (qi1 sa sn sc).ownBlock:=(((HG5.out.trans HG6.out).trans (qgw w6 (.cells #[.slice vb x1.length vc] 29) none)).but _).trans ⟨a6.os,a6.tape,a6.output,a6.size,a6.block⟩;have d8:w7.heap[Sg]?=some (.cells #[.slice sa sn sc] 36 (0,0)):=(e6.block Sg k0 (λe=>l9 e.symm)).trans HQ1.out;have s7:w7.cell? Sg=some (.slice sa sn sc):=q8 d8 rfl;have z7:w7.frozen? ⟨Sg,0,none⟩=false:=qm d8;have h6:(w6.alloc (.cells #[.slice vb x1.length vc] 29)).grownBy w7 (qi1 sa sn sc).ownBlock:=a6;have g7:qf W.heap.size w7.heap.size w7 (.slice vb x1.length vc) x1:=(((HI6.out.alloc (.cells #[.slice vb x1.length vc] 29)).mono HG5.out.size (qgA _)).kept h6 (λR e=>.inl (HF.out.lt R (HQ3.out R e.symm.symm)).2)).mono (qgA _) (by have:=h6.size;rw[qh6] at this;omega);have ⟨HX7,HO7,HG7,HA7,HL7⟩:=ZS g7 b7 e6 d6 d5;clear b7 a6 d6 d5 h6 g7 d8 e6 k6;refine hK.out _ _ (by first | exact a7 | exact s7 | exact s6 | exact(qgw _ _ none).cl a7) (λa7=>?_);clear hK K;try go_frame
    refine⟨by kernel_rfl,?_⟩;simp only[qhu,qia];go_wp2;obtain⟨l8,g9⟩:=HF.out.push HQ1.out HQ2.out HQ3.out HQ4.out HG7.out HO7.out (λg e=>by
     obtain rfl:g'=g:=by simpa[qhB] using e
     rcases HA7.out with h | h
     ·exact .inl h
     ·right;have:=HG5.out.size;have:=HG6.out.size;omega) (λg e=>by
     obtain rfl:g'=g:=by simpa[qhB] using e
     exact HL7.out) HX7.out rfl
    refine⟨_,g9 w3.heap.size Bl (by omega) (by omega),?_,HB.out.trans (g9 _ _ (by omega) (by omega))⟩;rw[qji,qn3,<- qjp,n3.out];simpa[h8,<- HZ.out] using l8
 case done=>
  rintro D ys G W hD hxs ⟨hf,hb⟩ hK k7;have ⟨HF,HB,HXS⟩:=z8 hf hb hxs;clear hf hb hxs
  gi_wp2
  have hst:Stp w3.heap.size Bl G W (W.putObj D (.deferred none)):=kA _ hD k7;have l5:=HB.out.size;have hf:=HF.out.stp hst (by omega) (by omega);rw[HXS.out] at hf;refine⟨by simp,.inl ⟨_,_,rfl,qnu hK,?_⟩⟩;refine⟨.bool false,by simp[qjb,Tryz.results120,go_sem],rfl,G,hf,hst.tape.trans HB.out.tape,qh0 l5 hst.size,λk hk hc hg=>(hst.keep k (by omega) (.inl ⟨by have:=HBL.out;omega,by have:=HBL.out;omega⟩)).trans (HB.out.keep k hk hc hg),HB.out.fp⟩
 case stop=>
  rintro D c pr G W hD ⟨t,ht⟩ h hK k7;exact h.elim
end
section
open Go.RowKit
abbrev Rec:=List (List Int) × Nat
def JK(l:List Int):Int:=l[0]?.getD 0
def q79(L:List (List Int)):List Int:=L[L.length - 1]?.getD []
def okF(p:Rec)(s:List Int):Bool:=!(decide (0<p.1.length) && decide (JK s<=JK (q79 p.1))) && decide (p.2 &&& zc s=0)
def QI(p:Rec)(s:List Int):Rec:=(p.1++[s],p.2 ||| zc s)
def jo(S:List (List Int))(now:List Rec):List Rec:=now.flatMap λp=>(S.filter (okF p)).map (QI p)
def qbk:Nat->List (List Int)->Nat->List Rec->Option (Option (List (List Int)))
 | 0,_,_,_=>none
 | n+1,S,all,now=>match now.find? λp=>p.2 == all with
  | some p=>some (some p.1)
  | none=>if(jo S now).length<=1000 then(if jo S now=[] then some none else qbk n S all (jo S now)) else none
def vV(w:qgx)(c1 c2:qgB)(p:Rec):Prop:=RowsIn 0 w.heap.size w c1 p.1/\c2=.int .u8 (p.2:Nat)/\∀a n c,c1=.slice a n c->n<=c
def Qp(w:qgx)(v:qgB)(R:List Rec):Prop :=
 ∃base cap,v=.slice base R.length cap /\
  (R≠[]->∃B o cs fr,base=some ⟨B,o,none⟩/\B<w.heap.size/\w.heap[B]?=some (.cells cs 133 fr) /\
   ∀i,i<R.length->∃p c1 c2,R[i]?=some p/\cs[o+i*2]?=some c1/\cs[o+(i*2+1)]?=some c2/\vV w c1 c2 p)
theorem vV.kept{w w':qgx}{c1 c2:qgB}{p:Rec}(h:vV w c1 c2 p)(hg:w.grownBy w' none):vV w' c1 c2 p:=⟨(h.1.kept hg).mono (qgA _) hg.size,h.2⟩
theorem Qp.at{w:qgx}{base:Option qi5}{cap k:Nat}{R:List Rec}(h:Qp w (.slice base R.length cap) R)(hk:k<R.length):∃B o p a n c,base=some ⟨B,o,none⟩/\R[k]?=some p/\n=p.1.length/\w.cell? ⟨B,o+k*2,none⟩=some (.slice a n c)/\w.cell? ⟨B,o+k*2+1,none⟩=some (.int .u8 (p.2:Nat))/\RowsIn 0 w.heap.size w (.slice a n c) p.1/\n<=c:=by
 obtain⟨a6,cap',e,hr⟩:=h;cases e;obtain⟨B,o,cs,fr,e1,e2,e3,e4⟩:=hr (by intro e;rw[e] at hk;simp at hk);obtain⟨p,c1,c2,h1,h2,h3,h4,rfl,h5⟩:=e4 k hk;obtain⟨a,c,rfl,-,-⟩:=h4.cell;exact⟨B,o,p,a,_,c,e1,h1,rfl,by simp[qhs,e3,h2],by rw[qmw];simp[qhs,e3,h3],h4,h5 _ _ _ rfl⟩
def Jd(R:List (qgB × qgB)):List qgB:=R.flatMap λx=>[x.1,x.2]
theorem q6C(R:List (qgB × qgB))(i:Nat)(h:i<R.length):(Jd R)[i*2]?=(R[i]?).map ql5/\(Jd R)[i*2+1]?=(R[i]?).map Prod.snd:=by
 induction R generalizing i with
 | nil=>simp at h
 | cons a t ih=>
  cases i with
  | zero=>simp[Jd]
  | succ i=>
   have:=ih i (by simpa using h);rw[show(i+1)*2=i*2+2 by omega];simpa[Jd] using this
theorem Qp.own{lo:Nat}{w:qgx}{v:qgB}{R:List Rec}{C:List (qgB × qgB)}(h:w.ownsRow lo 133 2 v R.length (Jd C))(hl:C.length=R.length)(hc:∀(i:Nat) (p:Rec) (x:qgB × qgB),R[i]?=some p->C[i]?=some x->vV w x.1 x.2 p):Qp w v R:=by
 obtain⟨h1,h2⟩:=h;rcases h2 with⟨rfl,h0⟩ | ⟨g,cap,cur,rfl,hb,hg,hn,hm,hs,ht⟩
 ·have:R=[]:=qim h0;subst this;exact⟨none,0,rfl,λh=>absurd rfl h⟩
 ·refine⟨_,cap,rfl,λ_=>⟨g,0,cur,_,rfl,(qgy.1 hg).1,hg,λi hi=>?_⟩⟩;have e1:=(q6C C i (by omega)).1;have e2:=(q6C C i (by omega)).2;have hx:C[i]?=some C[i]:=qgG (by omega);have hp:R[i]?=some R[i]:=qgG hi;rw[hx] at e1 e2;rw[<- ht,qiz (by omega)] at e1 e2;refine⟨R[i],_,_,hp,by simpa using e1,by simpa using e2,hc i _ _ hp hx⟩
theorem q84{w:qgx}{nb:Option qi5}{nc B:Nat}{L:List (List Int)}{x:qgB}{l:List Int}(ty:qh8)(hN:RowsIn 0 w.heap.size w (.slice nb L.length nc) L)(hx:w.cell? B=some x)(a8:qf 0 w.heap.size w x l)(hl:L.length<=1000) :∃g cap w',(qku #[36,36] ty #[.slice nb L.length L.length,.slice (some B) 1 1]).run Ya w=.ok (.slice (some ⟨g,0,none⟩) (L.length+1) cap) w'/\w.grownBy w' none /\RowsIn 0 w'.heap.size w' (.slice (some ⟨g,0,none⟩) (L.length+1) cap) (L++[l])/\L.length+1<=cap:=by
 obtain⟨i0,b7,b0,a7,a9⟩:=qjj Tp.info29p;obtain⟨xb,xc,rfl,-,-⟩:=a8.cell;have a6:∀j v,([.slice xb l.length xc]:List qgB)[j]?=some v->w.cell? ((⟨B,0,none⟩:qi5).add j)=some v:=λj v hj=>by
  have:j=0:=by have:=(qh9.1 hj).1;simp at this;omega
  subst this;simp at hj;subst hj;simpa[Addr.add] using hx
 have key:∀(vals:List qgB) (zs:Array qgB) (cap:Nat),vals.length=L.length+1->(∀i,i<L.length+1->∃m y,(L++[l])[i]?=some m/\vals[i]?=some y/\qf 0 w.heap.size w y m) ->
   RowsIn 0 (w.drew.alloc (.cells (vals.toArray++zs) 29)).heap.size (w.drew.alloc (.cells (vals.toArray++zs) 29)) (.slice (some w.heap.size) (L.length+1) cap) (L++[l]):=by
  intro vals zs cap b9 hv;have hh:(w.drew.alloc (.cells (vals.toArray++zs) 29)).heap[w.heap.size]?=some (.cells (vals.toArray++zs) 29 (0,0)):=qgF w.drew _;have hg:w.grownBy (w.drew.alloc (.cells (vals.toArray++zs) 29)) none:=(qc w none).trans (qgw _ _ none);refine⟨_,cap,by simp,by simp;omega,λ_=>⟨w.heap.size,0,_,_,rfl,qhx _,(qgy.1 hh).1,hh,λi hi=>?_⟩⟩;obtain⟨m,y,e1,e2,e3⟩:=hv i (by simpa using hi);refine⟨m,y,e1,?_,(e3.kept hg).mono (qgA _) hg.size⟩;rw[qhf,qml (by simp at hi ⊢;omega)];simpa using e2
 obtain⟨base,cap',e,-,hc⟩:=hN.cell;cases e;cases nb with
 | none=>
  have h0:L=[]:=by
   refine qhF λhne=>?_;obtain⟨B,o,e1,_⟩:=hc hne;cases e1
  subst h0;have hr:=run_append_nil (P:=Ya) w 36 ty 29 i0 _ Tp.und36 b7 b0 ⟨B,0,none⟩ 1 1 [.slice xb l.length xc] (by rw[a7];rfl) a6 (by omega) (by omega) (by rw[a9];omega);have:=key [.slice xb l.length xc] (qjf (qi1 none 0 0).cells (qkG w 1 0 29 - 1)) (qkG w 1 0 29) (by simp) (λi hi=>by
   have:i=0:=by simp at hi;omega
   subst this;exact⟨l,_,by simp,by simp,a8⟩)
  exact⟨_,_,_,hr,(qc w none).trans (qgw _ _ none),this,Qe _ _ _ _⟩
 | some b=>
  by_cases hne:L=[]
  ·subst hne;have hr:=run_append_grow (P:=Ya) w 36 ty 29 i0 _ Tp.und36 b7 b0 b 0 0 [] (by simp) (λj v hj=>by simp at hj) ⟨B,0,none⟩ 1 1 [.slice xb l.length xc] (by rw[a7];rfl) a6 (by omega) (by omega) (growslice_fits (by omega) (by rw[a9];omega));have:=key [.slice xb l.length xc] (qjf (qi1 none 0 0).cells (qkG w 1 0 29 - 1)) (qkG w 1 0 29) (by simp) (λi hi=>by
    have:i=0:=by simp at hi;omega
    subst this;exact⟨l,_,by simp,by simp,a8⟩)
   simp only[qho,qhf] at hr;exact⟨_,_,_,by simpa using hr,(qc w none).trans (qgw _ _ none),by simpa using this,Qe _ _ _ _⟩
  ·obtain⟨B',o,e1,-,-,-,h4⟩:=hc hne;cases e1;obtain⟨vals,b9,c3⟩:∃vals:List qgB,vals.length=L.length/\∀i,i<L.length->∃m y,L[i]?=some m/\vals[i]?=some y/\w.cell? ⟨B',o+i,none⟩=some y/\qf 0 w.heap.size w y m:=by
    refine⟨(qht L.length).map λi=>(w.cell? ⟨B',o+i,none⟩).getD qgD,by simp,λi hi=>?_⟩;obtain⟨m,y,k1,k2,k3⟩:=h4 i hi;exact⟨m,y,k1,by simp[hi,k2],k2,k3⟩
   have b6:∀j v,vals[j]?=some v->w.cell? ((⟨B',o,none⟩:qi5).add j)=some v:=λj v hj=>by
    have c9:j<L.length:=by have:=(qh9.1 hj).1;omega
    obtain⟨m,y,k1,k2,k3,k4⟩:=c3 j c9;rw[k2] at hj;cases hj;exact yg k3
   have hr:=run_append_grow (P:=Ya) w 36 ty 29 i0 _ Tp.und36 b7 b0 ⟨B',o,none⟩ L.length L.length vals (by rw[a7];omega) b6 ⟨B,0,none⟩ 1 1 [.slice xb l.length xc] (by rw[a7];rfl) a6 (by omega) (by omega) (growslice_fits (by omega) (by rw[a9];omega));obtain⟨xv,b8⟩:∃xv,xv=qi1 xb l.length xc:=⟨_,rfl⟩;have:=key (vals++[xv]) (qjf (qi1 none 0 0).cells (qkG w (L.length+1) L.length 29 - (L.length+1))) (qkG w (L.length+1) L.length 29) (by simp;omega) (λi hi=>by
    by_cases c8:i<L.length
    ·obtain⟨m,y,k1,k2,k3,k4⟩:=c3 i c8;exact⟨m,y,by rw[qhz c8];exact k1,by rw[qhz (by omega)];exact k2,k4⟩
    ·have:i=L.length:=by omega
     subst this;exact⟨l,xv,by simp,by rw[<- b9];simp,by rw[b8];exact a8⟩)
   rw[b8] at this;have e:vals.toArray++[qi1 xb l.length xc].toArray=(vals++[qi1 xb l.length xc]).toArray:=by simp
   rw[e] at hr;exact⟨_,_,_,hr,(qc w none).trans (qgw _ _ none),this,Qe _ _ _ _⟩
theorem Yz{ops:Array qiu}{o:qiu}{a:Act}{w:qgx}{K:Act->qgx->Prop}{Q:Exit->Act->qgx->Prop}{E:Prop}(a6:o.guard=none)(s x:qhE)(hop:o.op=.call { callee:=.builtin .append,args:=#[s,x],argTypes:=#[36,36] }){nb:Option qi5}{nc B:Nat}{L:List (List Int)}{y:qgB}{l:List Int}(hs:a.eval s=.slice nb L.length L.length)(hx:a.eval x=.slice (some B) 1 1)(hN:RowsIn 0 w.heap.size w (.slice nb L.length nc) L)(hy:w.cell? B=some y)(hyi:qf 0 w.heap.size w y l)(hl:L.length<=1000)(h:∀g cap w',w.grownBy w' none->RowsIn 0 w'.heap.size w' (.slice (some ⟨g,0,none⟩) (L.length+1) cap) (L++[l])->L.length+1<=cap->K (a.put o.dst (.slice (some ⟨g,0,none⟩) (L.length+1) cap)) w') :if qhv o (qj4 ops a.tmps)=true then Oper.wp Ya o a w K Q else E:=by
 rw[if_pos (by simp[qhv,a6])];obtain⟨g,cap,w',hr,h2,h3,h4⟩:=q84 o.type hN hy hyi hl;unfold Oper.wp qk3;simp only[hop,resolve,invoke,builtin,qiy,qms,qiv,qmu,qla,qnh,hs,hx,hr];exact h g cap w' h2 h3 h4
theorem qf6{ps:List Par}{lim:Int}{Y Sg:Nat}{w0:qgx}{yb:Option qi5}{yc:Nat}(a8:w0.heap[Y]?=some (.cells #[.slice yb ps.length yc,lim] 91 (0,0)))(b0:qn 0 w0.heap.size w0 (.slice yb ps.length yc) ps){b6:Array qgB}{f0:Nat × Nat}(a9:w0.heap[Sg]?=some (.cells b6 36 f0))(hok:YOk ps lim)(a7:∀x:List Int,x.Nodup->(∀y∈x,0<=y/\y<ps.length)->POk ps lim x)(hN:((yt (jD ps.length) 0).flatMap Jg).length<=1000) :Cb w0.heap.size (jD ps.length) 120 #[.pointer (some Y),.pointer (some Sg)] (λdone G W=>J2 Sg w0 (vI ps done) G W):=by
 refine⟨?_,?_,enters_of Tp.x120 (by kernel_rfl) rfl,?_⟩
 ·intro s G A C h hg;exact h.stp (J8 (n1:=w0.heap.size) (B:=w0.heap.size) hg) (qgA _) (qgA _)
 ·exact λs G A h k hk=>(h.lt k hk).2
 ·rintro done G W v c hI hv - a6 ⟨t,ht⟩;obtain⟨h1,h2,h3⟩:=q6z a6;have hlen:(vI ps done).length+(Jg c).length<=1000:=by
   have h4:∀L:List (List Int),(vI ps L).length<=(L.flatMap Jg).length:=by
    intro L;induction L with
    | nil=>simp[vI]
    | cons a L ih=>
     have:=qk5 (λo:List Int=>!o.isEmpty && qz ps (pre Par.mx ps ps.length) o) (Jg a);simp only[vI,qjr,qio,q3q] at ih ⊢;omega
   rw[ht] at hN;have h5:=h4 done;simp only[qpw,qjr,List.flatMap_nil,qio] at hN;omega
  refine(qbl ps lim Y Sg w0 yb yc a8 b0 a9 hok c h1 h2 (by have:=hok.len;omega) (λx _ hn hx=>a7 x hn λy hy=>h2 y (hx y hy)) (vI ps done) hlen G W hI v hv).mono ?_;rintro e W' ⟨he,G',hF,hb⟩;exact⟨he,G',by rw[q5v];exact hF,hb⟩
theorem qdi{ps:List Par}{lim:Int}{Y Sg:Nat}{w0:qgx}{yb:Option qi5}{yc:Nat}(a8:w0.heap[Y]?=some (.cells #[.slice yb ps.length yc,lim] 91 (0,0)))(a9:qn 0 w0.heap.size w0 (.slice yb ps.length yc) ps)(a6:w0.heap[Sg]?=some (.cells #[.slice none 0 0] 36 (0,0)))(hok:YOk ps lim)(a7:∀x:List Int,x.Nodup->(∀y∈x,0<=y/\y<ps.length)->POk ps lim x)(hN:((yt (jD ps.length) 0).flatMap Jg).length<=1000){b:Option qi5}{k:Nat}(hI:qf 0 w0.heap.size w0 (.slice b ps.length k) (jD ps.length)) :qhw Ya 82 #[.slice b ps.length k,.func (.func 120) #[] #[.pointer (some Y),.pointer (some Sg)]] w0 λe W'=>e=.returned (.bool false)/\∃G',J2 Sg w0 (vI ps (yt (jD ps.length) 0)) G' W':=by
 have hl:ps.length<=5:=hok.len;have h:=qfw (b:=b) (c:=k) (ll:=jD ps.length) (qf6 a8 a9 a6 hok a7 hN) (by rw[zI];omega) (xX (by rw[zI];omega) (q2b _)) (by rw[zI];exact hI) (G:=q00) ⟨rfl,rfl,rfl,qgA _,λ_ _ _=>rfl,λk h=>h.elim,qx a6,_,[],a6,qjh _ _ _ _,λg e=>by simp[qhB] at e,λi hi=>by simp[vI] at hi⟩;rw[zI] at h;exact h
theorem J2.rows{Sg:Nat}{w0:qgx}{L:List (List Int)}{G:Nat->Prop}{W:qgx}(h:J2 Sg w0 L G W)(hne:L≠[])(hL:L.length<=1000):∃B c,W.heap[Sg]?=some (.cells #[.slice (some ⟨B,0,none⟩) L.length c] 36 (0,0))/\w0.heap.size<=B/\zf w0.heap.size W.heap.size B 0 W L:=by
 obtain⟨sv,vals,h1,h2,h3,h4⟩:=h.sg;obtain⟨hl,h2⟩:=h2;rcases h2 with⟨rfl,h0⟩ | ⟨g,cap,cur,rfl,hb,hg,hn,hm,hs,ht⟩
 ·exact absurd (qim h0) hne
 ·refine⟨g,cap,h1,hb,cur,hg,λi hi=>?_⟩;obtain⟨l,x,e1,e2,e3,-⟩:=h4 i hi;refine⟨l,x,e1,?_,e3⟩;rw[<- ht,qiz (by omega)] at e2;simpa using e2
theorem zf.rows{lo hi B o:Nat}{w:qgx}{L:List (List Int)}(h:zf lo hi B o w L)(hB:B<hi)(hlo:lo<=B)(hl:L.length<=1000)(c:Nat):RowsIn lo hi w (.slice (some ⟨B,o,none⟩) L.length c) L:=by
 obtain⟨cs,h1,h2⟩:=h;exact⟨_,c,rfl,by omega,λ_=>⟨B,o,cs,_,rfl,hlo,hB,h1,h2⟩⟩
theorem q9a:∀m n:Fin 32,bits .and .u8 (m.1:Int) (n.1:Int)=((m.1 &&& n.1:Nat):Int):=by decide
theorem qc0:∀m n:Fin 32,bits .or .u8 (m.1:Int) (n.1:Int)=((m.1 ||| n.1:Nat):Int):=by decide
theorem Tp.info133p:(Ya.info? 133).map (λi=>(i.zero,i.size,i.bytes))=some (some (.agg #[.slice none 0 0,.int .u8 0]),2,32):=by kernel_rfl
theorem Tp.und134:Ya.underlying 134=some (.slice 133):=by rw[Tp.und];exact Tryz.underlying134
theorem RowsIn.keptT{lo hi O:Nat}{w w':qgx}{v:qgB}{L:List (List Int)}(h:RowsIn lo hi w v L)(hg:w.grownBy w' (some O)){cs':Array qgB}{e':qh8}{f':Nat × Nat}(hO:w.heap[O]?=some (.cells cs' e' f'))(h3:e'≠3)(a6:e'≠29):RowsIn lo hi w' v L:=by
 obtain⟨base,cap,rfl,hl,hr⟩:=h;refine⟨base,cap,rfl,hl,λhn=>?_⟩;obtain⟨B,o,cs,fr,e1,e2,e3,e4,e5⟩:=hr hn;refine⟨B,o,cs,fr,e1,e2,e3,blk hg (λe=>?_) e4,λi hi=>?_⟩
 ·cases e;rw[e4] at hO;cases hO;exact a6 rfl
 ·obtain⟨l,x,k1,k2,k3⟩:=e5 i hi;exact⟨l,x,k1,k2,k3.keptT hg hO h3⟩
def jG(lo:Nat)(w:qgx)(v:qgB)(R:List Rec):Prop :=
 ∃C:List (qgB × qgB),w.ownsRow lo 133 2 v R.length (Jd C)/\C.length=R.length/\∀(i:Nat) (p:Rec) (x:qgB × qgB),R[i]?=some p->C[i]?=some x->vV w x.1 x.2 p
theorem jG.nil(lo:Nat)(w:qgx):jG lo w (.slice none 0 0) []:=⟨[],qjh _ _ _ _,rfl,λi p x h=>by simp at h⟩
theorem jG.recs{lo:Nat}{w:qgx}{v:qgB}{R:List Rec}(h:jG lo w v R):Qp w v R:=by
 obtain⟨C,h1,h2,h3⟩:=h;exact Qp.own h1 h2 h3
theorem jG.kept{lo:Nat}{w w':qgx}{v:qgB}{R:List Rec}(h:jG lo w v R)(hg:w.grownBy w' none):jG lo w' v R:=by
 obtain⟨C,h1,h2,h3⟩:=h;exact⟨C,jL h1 λg e=>hg.block g (h1.lt g e).2 (by simp),h2,λi p x e1 e2=>(h3 i p x e1 e2).kept hg⟩
theorem q86(C:List (qgB × qgB))(x:qgB × qgB):Jd (C++[x])=Jd C++[x.1,x.2]:=by simp[Jd]
theorem vV.app{lo n:Nat}{w w':qgx}{v c1 c2:qgB}{xs:List qgB}{p:Rec}(hq:vV w c1 c2 p)(h1:w.ownsRow lo 133 2 v n xs)(hg:w.grownBy w' v.ownBlock):vV w' c1 c2 p:=by
 refine⟨?_,hq.2⟩;rcases h1.2 with⟨rfl,_⟩ | ⟨g,cap,cur,rfl,hb,hgb,_⟩
 ·exact(RowsIn.kept hq.1 hg (by simp[qhB])).mono (qgA _) hg.size
 ·exact(RowsIn.keptT hq.1 (O:=g) hg hgb (by decide) (by decide)).mono (qgA _) hg.size
theorem q14(S:List (List Int))(recs:List Rec):(jo S recs).length<=recs.length*S.length:=by
 unfold jo;induction recs with
 | nil=>simp
 | cons a t ih=>
  have:=qk5 (okF a) S;simp only[qjr,qio,qkw,qh3];rw[qnG];omega
theorem jG.push{lo:Nat}{w w':qgx}{v v':qgB}{R:List Rec}{C:List (qgB × qgB)}{c1 c2:qgB}{p:Rec}(h1:w.ownsRow lo 133 2 v R.length (Jd C))(h2:C.length=R.length)(h3:∀(i:Nat) (p:Rec) (x:qgB × qgB),R[i]?=some p->C[i]?=some x->vV w x.1 x.2 p)(hg:w.grownBy w' v.ownBlock)(hown:w'.ownsRow lo 133 2 v' (R.length+1) (Jd C++[c1,c2]))(hr:vV w' c1 c2 p):jG lo w' v' (R++[p]):=by
 refine⟨C++[(c1,c2)],by rw[q86,qio];exact hown,by simp[h2],λi q x e1 e2=>?_⟩;by_cases hi:i<R.length
 ·rw[qhz hi] at e1;rw[qhz (by omega)] at e2;exact(h3 i q x e1 e2).app h1 hg
 ·have a6:i=R.length:=by
   have:=(qh9.1 e1).1;simp at this;omega
  subst a6;rw[qj3 (qgA _)] at e1;rw[qj3 (by omega)] at e2;simp[h2] at e1 e2;subst e1 e2;exact hr
def qgj(S:List (List Int))(recs:List Rec):Prop:=recs.length<=1000/\∀p∈recs,(∀r∈p.1,r∈S)/\p.2<32/\p.1.length<=100
def q6r(S:List (List Int))(al:Nat)(R:List (List Int))(v:qgB)(w:qgx)(m:Nat):Prop:=∃recs,Qp w v recs/\qgj S recs/\(∀p∈recs,p.1.length+m<=100)/\qbk m S al recs=some (some R)
open Classical in
noncomputable def JG(P:Nat->Prop):Nat->Nat
 | 0=>0
 | n+1=>if P (JG P n) then JG P n else n+1
theorem q47(P:Nat->Prop):∀n,JG P n<=n
 | 0=>qgA _
 | n+1=>by
  have:=q47 P n;unfold JG;split<;>omega
theorem xr(P:Nat->Prop):∀n m,m<=n->P m->P (JG P n)/\JG P n<=m
 | 0,m,h,hp=>by
  obtain rfl:m=0:=by omega
  exact⟨hp,qgA _⟩
 | n+1,m,h,hp=>by
  unfold JG;split
  ·rename_i hl
   refine⟨hl,?_⟩;by_cases hm:m<=n
   ·exact(xr P n m hm hp).2
   ·have:=q47 P n;omega
  ·rename_i hl
   have:¬ m<=n:=λhm=>hl (xr P n m hm hp).1;obtain rfl:m=n+1:=by omega
   exact⟨hp,qgA _⟩
noncomputable def q6D(S:List (List Int))(al:Nat)(R:List (List Int))(v:qgB)(w:qgx):Nat:=JG (q6r S al R v w) 100
theorem q5z{S:List (List Int)}{al:Nat}{R:List (List Int)}{v:qgB}{w:qgx}{m:Nat}(hm:m<=100)(h:q6r S al R v w m):q6r S al R v w (q6D S al R v w):=(xr _ 100 m hm h).1
theorem q3v{S:List (List Int)}{al:Nat}{R:List (List Int)}{v:qgB}{w:qgx}{m:Nat}(hm:m<=100)(h:q6r S al R v w m):q6D S al R v w<=m:=(xr _ 100 m hm h).2
theorem q5D{S:List (List Int)}{recs:List Rec}{k:Nat}{p:Rec}(h:recs[k]?=some p):jo S (recs.take (k+1))=jo S (recs.take k)++(S.filter (okF p)).map (QI p):=by
 rw[qig,h];simp[jo]
theorem q1a{S:List (List Int)}{recs:List Rec}{q:Rec}(h:q∈jo S recs):∃p∈recs,∃s∈S,q=QI p s:=by
 simp only[jo,List.mem_flatMap,ql7,qo2] at h;obtain⟨p,hp,s,⟨hs,-⟩,rfl⟩:=h;exact⟨p,hp,s,hs,rfl⟩
theorem Zn(z:Array qgB)(h:z.size=123):∃t:Nat->qgB,(∀(j:Nat) (v:qgB),z[j]?=some v->t j=v)/\z=#[t 0,t 1,t 2,t 3,t 4,t 5,t 6,t 7,t 8,t 9,t 10,t 11,t 12,t 13,t 14,t 15,t 16,t 17,t 18,t 19,t 20,t 21,t 22,t 23,t 24,t 25,t 26,t 27,t 28,t 29,t 30,t 31,t 32,t 33,t 34,t 35,t 36,t 37,t 38,t 39,t 40,t 41,t 42,t 43,t 44,t 45,t 46,t 47,t 48,t 49,t 50,t 51,t 52,t 53,t 54,t 55,t 56,t 57,t 58,t 59,t 60,t 61,t 62,t 63,t 64,t 65,t 66,t 67,t 68,t 69,t 70,t 71,t 72,t 73,t 74,t 75,t 76,t 77,t 78,t 79,t 80,t 81,t 82,t 83,t 84,t 85,t 86,t 87,t 88,t 89,t 90,t 91,t 92,t 93,t 94,t 95,t 96,t 97,t 98,t 99,t 100,t 101,t 102,t 103,t 104,t 105,t 106,t 107,t 108,t 109,t 110,t 111,t 112,t 113,t 114,t 115,t 116,t 117,t 118,t 119,t 120,t 121,t 122]:=by
 have h1:=QC z;rw[h] at h1;exact⟨λj=>z[j]?.getD qgD,λj v e=>by show z[j]?.getD qgD=v;rw[e];rfl,h1.trans rfl⟩
def swp(s:List Int)(i:Nat):List Int:=(s.set i (s[i+1]?.getD 0)).set (i+1) (s[i]?.getD 0)
theorem q6x(s:List Int)(i:Nat):(swp s i).length=s.length:=by simp[swp]
def Zv(kn:List (List Int) × List (List Int))(m:List Int):List (List Int) × List (List Int):=if m∈kn.1 then kn else(kn.1++[m],kn.2++[m])
def exp1(n:Nat)(kn:List (List Int) × List (List Int))(s:List Int):List (List Int) × List (List Int):=(qht (n - 1)).foldl (λkn i=>Zv kn (swp s i)) kn
def qbp(n:Nat)(K now:List (List Int)):List (List Int) × List (List Int):=now.foldl (exp1 n) (K,[])
def jA(ps:List Par)(now:List (List Int)):Bool × List Int:=now.foldl (λb s=>if qz ps (pre Par.mx ps ps.length) (zl s)=true then(true,if b.1=true/\q1q (zl s) b.2=false then b.2 else zl s) else b) (false,[])
def okS(ps:List Par)(lim:Int)(s:List Int):Bool:=decide (s.length=5) && (decide (zl s).Nodup && ((zl s).all (λx=>decide (0<=x/\x<ps.length)) && decide (qK ps (zl s)<=lim)))
theorem Q8{ps:List Par}{lim:Int}{s:List Int}(h:okS ps lim s=true):s.length=5/\POk ps lim (zl s):=by
 simp only[okS,qhh,decide_eq_true_eq,qid] at h;obtain⟨h1,h3,h4,h5⟩:=h;exact⟨h1,h4,h3,h5,by have:=q0l s (λy=>y != -1);unfold zl;omega⟩
def q19(ps:List Par)(lim:Int)(n:Nat):Nat->List (List Int)->List (List Int)->Int->Option (Option (Int × List Int))
 | 0,_,_,_=>none
 | f+1,K,now,st=>if now.all (okS ps lim)=true/\now.length<=1000 then
   (if(jA ps now).1=true then some (some (st,(jA ps now).2))
    else if(qbp n K now).2.length<=1000 then(if(qbp n K now).2=[] then some none else q19 ps lim n f (qbp n K now).1 (qbp n K now).2 (st+1)) else none)
  else none
def kJ(L:List (List Int)):List qgB:=L.flatMap λs=>s.map (qhj .i64)
theorem q8B{L:List (List Int)}(h:∀s∈L,s.length=5)(i:Nat)(s:List Int)(hi:L[i]?=some s)(d:Nat)(hd:d<5):(kJ L)[i*5+d]?=some (.int .i64 (s[d]?.getD 0)):=by
 induction L generalizing i with
 | nil=>simp at hi
 | cons s0 L ih=>
  have h0:=h s0 (by simp);unfold kJ;rw[qjr];cases i with
  | zero=>
   simp at hi;subst hi;rw[qhz (by simp;omega),Nat.zero_mul,qhf,qj7,qgG (by omega)];rfl
  | succ i=>
   rw[qj3 (by simp;omega),qkw,h0,show(i+1)*5+d - 5=i*5+d by omega];exact ih (λt ht=>h t (by simp[ht])) i (by simpa using hi)
theorem q6a(L:List (List Int))(s:List Int):kJ (L++[s])=kJ L++s.map (qhj .i64):=by simp[kJ]
def jl(w:qgx)(v:qgB)(L:List (List Int)):Prop :=
 ∃base cap,v=.slice base L.length cap /\
  (L≠[]->∃B o cs fr,base=some ⟨B,o,none⟩/\w.heap[B]?=some (.cells cs 118 fr)/\∀i s,L[i]?=some s->∀d,d<5->cs[o+i*5+d]?=some (.int .i64 (s[d]?.getD 0)))
theorem jl.kept{w w':qgx}{v:qgB}{L:List (List Int)}(h:jl w v L)(hk:∀(k:Nat) (cs:Array qgB) (fr:Nat × Nat),w.heap[k]?=some (Obj.cells cs 118 fr)->w'.heap[k]?=some (Obj.cells cs 118 fr)):jl w' v L:=by
 obtain⟨base,cap,rfl,hr⟩:=h;refine⟨base,cap,rfl,λhne=>?_⟩;obtain⟨B,o,cs,fr,e1,e2,e3⟩:=hr hne;exact⟨B,o,cs,fr,e1,hk B _ _ e2,e3⟩
theorem jl.keptM{w w':qgx}{v:qgB}{L:List (List Int)}{M:Nat}(h:jl w v L)(hg:w.grownBy w' (some M))(hm:∀cs fr,w.heap[M]?≠some (Obj.cells cs 118 fr)):jl w' v L:=h.kept λk cs fr e=>(hg.block k (qx e) (λh=>hm cs fr (by cases h;exact e))).trans e
theorem zP.not{w:qgx}{M:Nat}{K:List (List Int)}(h:zP w M K)(cs:Array qgB)(t:qh8)(fr:Nat × Nat):w.heap[M]?≠some (Obj.cells cs t fr):=by
 obtain⟨es,clock,h1,-⟩:=h;rw[h1];intro e;cases e
theorem jl.own{lo:Nat}{w:qgx}{v:qgB}{L:List (List Int)}(h:w.ownsRow lo 118 5 v L.length (kJ L))(h5:∀s∈L,s.length=5):jl w v L:=by
 obtain⟨h1,h2⟩:=h;rcases h2 with⟨rfl,h0⟩ | ⟨g,cap,cur,rfl,hb,hg,hn,hm,hs,ht⟩
 ·have:L=[]:=qim h0;subst this;exact⟨none,0,rfl,λh=>absurd rfl h⟩
 ·refine⟨_,cap,rfl,λ_=>⟨g,0,cur,_,rfl,hg,λi s hi d hd=>?_⟩⟩;have a6:=(qh9.1 hi).1;have:=q8B h5 i s hi d hd;rw[<- ht,qiz (by omega)] at this;simpa using this
theorem jl.at{w:qgx}{base:Option qi5}{n cap k:Nat}{L:List (List Int)}(h:jl w (.slice base n cap) L){s:List Int}(hk:L[k]?=some s):∃B o,base=some ⟨B,o,none⟩/\B<w.heap.size/\w.cell? ⟨B,o+k*5,none⟩=some (.int .i64 (s[0]?.getD 0))/\w.cell? ⟨B,o+k*5+1,none⟩=some (.int .i64 (s[1]?.getD 0))/\w.cell? ⟨B,o+k*5+2,none⟩=some (.int .i64 (s[2]?.getD 0))/\w.cell? ⟨B,o+k*5+3,none⟩=some (.int .i64 (s[3]?.getD 0))/\w.cell? ⟨B,o+k*5+4,none⟩=some (.int .i64 (s[4]?.getD 0)):=by
 obtain⟨a6,cap',e,hr⟩:=h;cases e;obtain⟨B,o,cs,fr,e1,e2,e3⟩:=hr (by intro e;rw[e] at hk;simp at hk);have c:=e3 k s hk;exact⟨B,o,e1,qx e2,q8 e2 (c 0 (by omega)),q8 e2 (c 1 (by omega)),q8 e2 (c 2 (by omega)),q8 e2 (c 3 (by omega)),q8 e2 (c 4 (by omega))⟩
theorem Tp.info118p:(Ya.info? 118).map (λi=>(i.zero,i.size,i.bytes))=some (some (.agg #[.int .i64 0,.int .i64 0,.int .i64 0,.int .i64 0,.int .i64 0]),5,40):=by kernel_rfl
theorem Tp.und121:Ya.underlying 121=some (.slice 118):=by rw[Tp.und];exact Tryz.underlying121
end
section
open Go Go.RowKit Go.Co
noncomputable def mX8:qje:=sqB (sqB (sqB (sqB (sqB (sqB (sqB (inn (sqB (Tryz.f54.body.getD .skip)))))))))
noncomputable def q43:qje:=sqB (sqB mX8)
noncomputable def mLA:qje:=inn (sqB (sqA q43))
noncomputable def qb1:qje:=sqB (sqB q43)
noncomputable def mLB:qje:=inn (sqB (sqA qb1))
noncomputable def mB3:qje:=inn (sqA (sqB (sqB (inn mLB))))
noncomputable def mLC:qje:=inn (sqB (sqB mB3))
def Kp(ks:List Nat)(z z':Array qgB):Prop:=∀j∈ks,z'[j]?=z[j]?
theorem qb8(ks:List Nat)(z z':Array qgB)(hz:z'.size=123)(hk:Kp ks z z'):z'=((qht 123).map λj=>bif ks.elem j then z[j]?.getD qgD else z'[j]?.getD qgD).toArray:=by
 have h1:=QC z';rw[hz] at h1;refine h1.trans (congrArg List.toArray (List.map_congr_left λj hj=>?_));cases hc:ks.elem j with
 | false=>rfl
 | true=>
  show z'[j]?.getD qgD=z[j]?.getD qgD;rw[hk j (List.elem_iff.1 hc)]
def vR(k:Nat)(kn:List (List Int) × List (List Int))(s:List Int):List (List Int) × List (List Int):=(qht k).foldl (λkn i=>Zv kn (swp s i)) kn
theorem QE(k:Nat)(kn:List (List Int) × List (List Int))(s:List Int):vR (k+1) kn s=Zv (vR k kn s) (swp s k):=by simp[vR,qkH]
theorem q7u(kn:List (List Int) × List (List Int))(m:List Int):(Zv kn m).2.length<=kn.2.length+1:=by
 unfold Zv;split<;>simp
theorem q4o(k:Nat)(kn:List (List Int) × List (List Int))(s:List Int):(vR k kn s).2.length<=kn.2.length+k:=by
 induction k with
 | zero=>simp[vR]
 | succ k ih=>rw[QE];have:=q7u (vR k kn s) (swp s k);omega
theorem q57{kn:List (List Int) × List (List Int)}{m:List Int}(h:∀s∈kn.2,s.length=5)(hm:m.length=5):∀s∈(Zv kn m).2,s.length=5:=by
 unfold Zv;split
 ·exact h
 ·intro s hs;rcases qjv.1 hs with h1 | h1
  ·exact h s h1
  ·rw[qjC.1 h1];exact hm
theorem q8G{k:Nat}{kn:List (List Int) × List (List Int)}{s:List Int}(h:∀s∈kn.2,s.length=5)(hs:s.length=5):∀t∈(vR k kn s).2,t.length=5:=by
 induction k with
 | zero=>simpa[vR] using h
 | succ k ih=>rw[QE];exact q57 ih (by rw[q6x];exact hs)
theorem yU{P:qh2}{c:qje}{Q:Exit->Act->qgx->Prop}{a:Act}{w:qgx}(F:qgx->Prop)(hF:F w)(h:∀u,F u->c.wp P Q a u):c.wp P Q a w:=h w hF
structure qgh(Sb i:Nat)(s:List Int)(a b:Int)(w:qgx):Prop where
 fst:w.cell? ⟨Sb,i,none⟩=some (.int .i64 a)
 snd:w.cell? ⟨Sb,i+1,none⟩=some (.int .i64 b)
 mid:∀W:qgx,W.heap=w.heap->(W.setCell ⟨Sb,i,none⟩ (.int .i64 b)).cell? ⟨Sb,i+1,none⟩=some (.int .i64 b)/\(W.setCell ⟨Sb,i,none⟩ (.int .i64 b)).frozen? ⟨Sb,i+1,none⟩=false
 fin:∀W:qgx,W.heap=w.heap->((W.setCell ⟨Sb,i,none⟩ (.int .i64 b)).setCell ⟨Sb,i+1,none⟩ (.int .i64 a)).heap[Sb]?=some (.cells ((swp s i).map (qhj .i64)).toArray 118 (0,0))
theorem zB{w:qgx}{Sb i:Nat}{s:List Int}{a b:Int}(h:w.heap[Sb]?=some (.cells (s.map (qhj .i64)).toArray 118 (0,0)))(ha:s[i]?=some a)(hb:s[i+1]?=some b):qgh Sb i s a b w where
 fst:=q8 h (by simp[ha])
 snd:=q8 h (by simp[hb])
 mid W e:=by
  have h1:=qg (o:=i) (v:=.int .i64 b) (show W.heap[Sb]?=_ by rw[e];exact h);refine⟨q8 h1 ?_,qm h1⟩;rw[qif (by omega)];simp[hb]
 fin W e:=by
  have h1:=qg (o:=i+1) (v:=.int .i64 a) (qg (o:=i) (v:=.int .i64 b) (show W.heap[Sb]?=_ by rw[e];exact h));rw[h1];unfold swp;rw[ha,hb];simp[List.map_set]
theorem qcp{s:List Int}{i:Nat}{a b:Int}(ha:s[i]?=some a)(hb:s[i+1]?=some b):swp (swp s i) i=s:=by
 apply qls;intro j;simp only[swp,ha,hb,List.getElem?_set,qmE];have h1:=(qh9.1 ha).1;have h2:=(qh9.1 hb).1;by_cases e1:i+1=j
 ·subst e1;rw[hb];simp[h1,h2]
 ·by_cases e2:i=j
  ·subst e2;rw[ha];simp[h1,h2]
  ·simp[e1,e2]
theorem q9C{s:List Int}{i:Nat}{a b:Int}(ha:s[i]?=some a)(hb:s[i+1]?=some b):(swp s i)[i]?=some b/\(swp s i)[i+1]?=some a:=by
 have h1:=(qh9.1 ha).1;have h2:=(qh9.1 hb).1;unfold swp;rw[ha,hb];constructor
 ·rw[qka (by omega)];simp[h1]
 ·simp[h2]
structure McI(w1 u:qgx)(M Sb:Nat)(kn:List (List Int) × List (List Int))(nv:qgB)(s:List Int):Prop where
 g:w1.grownBy u (some M)
 m:zP u M kn.1
 o:u.ownsRow w1.heap.size 118 5 nv kn.2.length (kJ kn.2)
 n:∀b,nv.ownBlock=some b->b≠Sb
 s:u.heap[Sb]?=some (.cells (s.map (qhj .i64)).toArray 118 (0,0))
theorem McI.kept{w1 u u':qgx}{M Sb:Nat}{kn:List (List Int) × List (List Int)}{nv:qgB}{s s':List Int}(h:McI w1 u M Sb kn nv s)(hM:M<w1.heap.size)(a6:w1.heap.size<=Sb)(hg:u.grownBy u' (some Sb))(hs:u'.heap[Sb]?=some (.cells (s'.map (qhj .i64)).toArray 118 (0,0))):McI w1 u' M Sb kn nv s' where
 g:=h.g.andThen hg (λj e=>.inl (by cases e;exact a6))
 m:=h.m.kept (hg.block M (qh7 hM h.g.size) (λe=>by cases e;omega))
 o:=h.o.kept hg (.inr λe=>h.n _ e rfl)
 n:=h.n
 s:=hs
theorem McI.swap{w1 u:qgx}{M Sb i:Nat}{kn:List (List Int) × List (List Int)}{nv:qgB}{s:List Int}{a b:Int}(h:McI w1 u M Sb kn nv s)(hM:M<w1.heap.size)(a6:w1.heap.size<=Sb)(ha:s[i]?=some a)(hb:s[i+1]?=some b) :McI w1 (((u.setCell ⟨Sb,i,none⟩ (.int .i64 b)).setCell ⟨Sb,i+1,none⟩ (.int .i64 a)).drew) M Sb kn nv (swp s i) :=
 h.kept hM a6 (((qe _ _ _ _).trans (qe _ _ _ _)).trans (qc _ _)) ((zB h.s ha hb).fin u rfl)
theorem McI.put{w1 u u':qgx}{M Sb:Nat}{K nx:List (List Int)}{nv:qgB}{s m:List Int}(h:McI w1 u M Sb (K,nx) nv s)(hM:M<w1.heap.size){o:Obj}(hu:u'=u.putObj M o)(hm:zP u' M (K++[m])):McI w1 u' M Sb (K++[m],nx) nv s:=by
 have hb:=h.g.size;have hg:u.grownBy u' (some M):=by rw[hu];exact qkn u M o
 refine⟨h.g.trans hg,hm,h.o.kept hg (.inr λe=>?_),h.n,(hg.block Sb (qx h.s) (λe=>?_)).trans h.s⟩
 ·have:=(h.o.lt M e).1;omega
 ·cases e;exact h.m.not _ _ _ h.s
theorem McI.push{w1 u u':qgx}{M Sb:Nat}{K nx:List (List Int)}{oa:Option qi5}{om oc:Nat}{s m:List Int}(h:McI w1 u M Sb (K,nx) (.slice oa om oc) s)(hM:M<w1.heap.size){x:Obj}{gi cap:Nat}(hg:(u.alloc x).grownBy u' (qi1 oa om oc).ownBlock)(ho:u'.ownsRow w1.heap.size 118 5 (.slice (some gi) (nx.length+1) cap) (nx.length+1) (kJ nx++m.map (qhj .i64)))(a7:(qi1 oa om oc).ownBlock=some gi\/gi=u.heap.size+1) :McI w1 u' M Sb (K,nx++[m]) (.slice (some gi) (nx.length+1) cap) s:=by
 have hb:=h.g.size;have hs:=qx h.s;have a6:=qgw u x none;refine⟨(h.g.andThen a6 (by simp)).andThen hg (λj e=>.inl (h.o.lt j e).1),h.m.kept ((hg.block M (by rw[qh6];omega) (λe=>?_)).trans (a6.block M (by omega) (by simp))),?_,λb e=>?_,(hg.block Sb (by rw[qh6];omega) (λe=>h.n Sb e.symm rfl)).trans (qp h.s)⟩
 ·have:=(h.o.lt M e.symm).1;omega
 ·rw[q6a,qio];exact ho
 ·have e':gi=b:=by simpa[qhB] using e
  subst e';rcases a7 with h1 | h1
  ·exact h.n _ h1
  ·omega
theorem q7s{kn:List (List Int) × List (List Int)}{m:List Int}(h:m∈kn.1):Zv kn m=kn:=if_pos h
theorem q7t{kn:List (List Int) × List (List Int)}{m:List Int}(h:m∉kn.1):Zv kn m=(kn.1++[m],kn.2++[m]):=if_neg h
def cCh:List Nat:=[0,1,2,3,4,5,6,7,8,9,10,12,13,14,15,16,17,18,19,23,24,25,26,27,28,29,30,31,32,33,34,35,36,37,38,39,40,41,42,43,44,45,46,47,48,49,50,51,52,53,54,55,56,57,58,59,60,61,62,63,64,65,66,67,68,69,70,115,116,117,118,119,120,121,122]
theorem qfE(z:Array qgB)(hz:z.size=123)(w1 w:qgx)(R:Act->qgx->Prop)(n1 M Sb:Nat)(st:Int)(s:List Int)(K nx:List (List Int))(nv:qgB)(h9:z[9]?=some (.map (some M)))(k9:z[11]?=some nv)(k8:z[12]?=some (.int .i64 st))(k7:z[19]?=some (.pointer (some Sb)))(k6:z[70]?=some (.int .i64 n1))(k5:z[71]?=some (.int .i64 0))(hn:n1<=4)(hs:s.length=5)(hM:M<w1.heap.size)(e5:w1.heap.size<=Sb)(hS:w.heap[Sb]?=some (.cells (s.map (qhj .i64)).toArray 118 (0,0)))(hg:w1.grownBy w (some M))(hK:zP w M K)(ho:w.ownsRow w1.heap.size 118 5 nv nx.length (kJ nx))(hne:∀b,nv.ownBlock=some b->b≠Sb)(hlen:nx.length+n1<=100000)(hst:0<=st/\st<=100000)(h5:∀s∈nx,s.length=5)(hR:∀(z':Array qgB) (g5:qgB) w',z'.size=123->z'[11]?=some g5->Kp cCh z z'->w1.grownBy w' (some M)->zP w' M (vR n1 (K,nx) s).1->w'.ownsRow w1.heap.size 118 5 g5 (vR n1 (K,nx) s).2.length (kJ (vR n1 (K,nx) s).2)->R ⟨z',[]⟩ w') :mLC.wp Ya (qlt 4 (yh R)) ⟨z,[]⟩ w:=by
 obtain⟨i0,l9,l8,l7,l6⟩:=qjj Tp.info118p;obtain⟨t,ht,rfl⟩:=Zn z hz;have e9:=ht 9 _ h9;have l5:=ht 11 _ k9;have e8:=ht 12 _ k8;have e7:=ht 19 _ k7;have e6:=ht 70 _ k6;have l4:=ht 71 _ k5;clear ht h9 k9 k8 k7 k6 k5;rw[e9,l5,e8,e7,e6,l4];have HE:=qgv (qhb e9 (qhb e8 (qhb e7 e6)));clear e9 l5 e8 e7 e6 l4;have ⟨HR,HG,HS,HK,HO,HNE,H5⟩:=q62 hR hg hS hK ho hne h5;clear hR hg hS hK ho hne hz h5;simp only[mLC,mB3,mLB,qb1,q43,mX8,qmy,qgH,sqA,sqB,inn];go_wp2;go_loopw [11,71] (λnv iv wr=>∃i:Nat,iv=.int .i64 i/\i<=n1/\McI w1 wr M Sb (vR i (K,nx) s) nv s) (λ_ iv _=>(n1 - qi9 iv).toNat)
 case atStart=>exact⟨0,rfl,by omega,HG.out,HK.out,HO.out,HNE.out,HS.out⟩
 case round=>
  obtain⟨i,rfl,hi,hI⟩:=hrel;obtain⟨oa,om,oc,rfl⟩:=zt hI.o;have HI:=qgv hI;have d5:=q4o i (K,nx) s;by_cases hlt:i<n1
  ·obtain⟨a,ha⟩:∃a,s[i]?=some a:=⟨_,qgG (by omega)⟩;obtain⟨b,hb⟩:∃b,s[i+1]?=some b:=⟨_,qgG (by omega)⟩;obtain⟨q,hq⟩:∃q,q=swp s i:=⟨_,rfl⟩;have g9:q[i]?=some b:=by rw[hq];exact(q9C ha hb).1
   have g8:q[i+1]?=some a:=by rw[hq];exact(q9C ha hb).2
   have g7:swp q i=s:=by rw[hq];exact qcp ha hb
   have d9:q.length=5:=by rw[hq,q6x];exact hs
   have m9:(i:Int)<(n1:Int):=by omega
   have n3:IntKind.i64.wrap (i:Int)=(i:Int):=qhp _ (by omega);have n2:IntKind.i64.wrap ((i:Int)+1)=(i:Int)+1:=qhp _ (by omega);have m8:IntKind.i64.wrap (st+1)=st+1:=qhp _ (by omega);have n8:((i:Int)+1).toNat=i+1:=by omega
   have p3:(i:Int)<5:=by omega
   have n9:(i:Int)+1<5:=by omega
   have n6:(0:Int)<=(i:Int)+1:=by omega
   have hu:(0:Int)<=(i:Int):=by omega
   have ca:=(zB hI.s ha hb).fst;have cb:=(zB hI.s ha hb).snd;have za:=qm hI.s (o:=i);have zb:=qm hI.s (o:=i+1);have b7:=qgv (zB hI.s ha hb).mid;have SW:=qgv (hI.swap hM e5 ha hb);have AB:=qgv (qhb ha hb);have HQ:=qgv (qhb g9 g8);have HQ2:=qgv (qhb g7 hq);clear hI ha hb g9 g8 g7;go_wp2_with (fail);refine qJ 12 (λw'=>w'.cell? ⟨Sb,i+1,none⟩=some (.int .i64 b)/\w'.frozen? ⟨Sb,i+1,none⟩=false) (by kernel_rfl) (by kernel_rfl) ⟨cb,zb⟩ (λa6=>?_);simp only[qh3,qhc,qhk,qii,qhf,qhq,qhr,qhC,qho,qhe];refine tk 0 (h:=tk 1 (h:=tk 2 (h:=tk 3 (h:=tk 4 (h:=tk 5 (h:=tk 6 (h:=tk 7 (h:=tk 8 (h:=?_)))))))));try go_frame
   refine rdc 9 λK hK=>?_;go_simp;refine hK.out _ _ (by first | exact a6 | exact⟨cb,zb⟩ | exact b7.out _ rfl) (λa6=>?_);clear hK K;try go_frame
   refine tk 10 (h:=?_);try go_frame
   refine rdc 11 λK hK=>?_;go_simp;refine hK.out _ _ (by first | exact a6 | exact⟨cb,zb⟩ | exact b7.out _ rfl) (λa6=>?_);clear hK K;try go_frame
   refine⟨by kernel_rfl,?_⟩;simp only[qhu,qia];go_upto_region 26 with(fail);refine yU (λu=>McI w1 u M Sb (vR i (K,nx) s) (.slice oa om oc) q) (by rw[HQ2.out.2];exact SW.out) (λu b8=>?_);have d7:=qgv b8;obtain⟨m0,m1,m2,m3,m4,b6⟩:=q8q d9;have a7:=b8.s;rw[b6] at a7;have b0:=q8 a7 (o:=0) (v:=.int .i64 m0) rfl;have b1:=q8 a7 (o:=1) (v:=.int .i64 m1) rfl;have b2:=q8 a7 (o:=2) (v:=.int .i64 m2) rfl;have b3:=q8 a7 (o:=3) (v:=.int .i64 m3) rfl;have b4:=q8 a7 (o:=4) (v:=.int .i64 m4) rfl;obtain⟨vl,b9⟩:=b8.m.look q d9;obtain⟨kn,e4⟩:∃kn,kn=vR i (K,nx) s:=⟨_,rfl⟩;rw[<- e4] at b9 d7 HI d5;have ⟨HKN,HQE⟩:=qH e4 b6;clear b8 a7 e4 a6;obtain⟨K1,c3⟩:=kn;dsimp only at b9 d5;by_cases a9:q∈K1
   ·rw[decide_eq_true a9,b6] at b9;have c9:(qmp 120 (.map (some M)) (.agg #[m0,m1,m2,m3,m4]) true).run Ya u=.ok (.tuple #[vl,.bool true]) u:=b9;clear b9 b6;have HV:=qgv (q7s (kn:=(K1,c3)) a9);clear a9;go_upto_region 30 with(fail);clear b0 b1 b2 b3 b4 c9;clear ca cb za zb b7 SW AB;have a8:=d7.out;obtain⟨ha,hb⟩:=HQ.out;have ca:=(zB a8.s ha hb).fst;have cb:=(zB a8.s ha hb).snd;have za:=qm a8.s (o:=i);have zb:=qm a8.s (o:=i+1);have b7:=qgv (zB a8.s ha hb).mid;have SW:=qgv (a8.swap hM e5 ha hb);have AB:=qgv (qhb ha hb);clear a8 ha hb;go_wp2_with (fail);refine qJ 12 (λw'=>w'.cell? ⟨Sb,i+1,none⟩=some (.int .i64 a)/\w'.frozen? ⟨Sb,i+1,none⟩=false) (by kernel_rfl) (by kernel_rfl) ⟨cb,zb⟩ (λa6=>?_);simp only[qh3,qhc,qhk,qii,qhf,qhq,qhr,qhC,qho,qhe];refine tk 0 (h:=tk 1 (h:=tk 2 (h:=tk 3 (h:=tk 4 (h:=tk 5 (h:=tk 6 (h:=tk 7 (h:=tk 8 (h:=?_)))))))));try go_frame
    refine rdc 9 λK hK=>?_;go_simp;refine hK.out _ _ (by first | exact a6 | exact⟨cb,zb⟩ | exact b7.out _ rfl) (λa6=>?_);clear hK K;try go_frame
    refine tk 10 (h:=?_);try go_frame
    refine rdc 11 λK hK=>?_;go_simp;refine hK.out _ _ (by first | exact a6 | exact⟨cb,zb⟩ | exact b7.out _ rfl) (λa6=>?_);clear hK K;try go_frame
    refine⟨by kernel_rfl,?_⟩;simp only[qhu,qia];go_wp2;go_roundw
    case rel=>exact⟨i+1,by simp,by omega,by rw[QE,<- HQ2.out.2,<- HKN.out,HV.out];rw[HQ2.out.1] at SW;exact SW.out⟩
    case measure=>simp[qi9];omega
   ·rw[decide_eq_false a9,b6] at b9;have c9:(qmp 120 (.map (some M)) (.agg #[m0,m1,m2,m3,m4]) true).run Ya u=.ok (.tuple #[vl,.bool false]) u:=b9;clear b9;obtain⟨ob,n7,d8,k0⟩:=d7.out.m.add q d9 a9 (st+1);rw[b6] at d8;have g6:(qiB 120 (.map (some M)) (.agg #[m0,m1,m2,m3,m4]) (.int .i64 (st+1))).run Ya u=.ok () (u.putObj M ob):=d8;have HV:=qgv (q7t (kn:=(K1,c3)) a9);have m6:=qgv k0;clear d8 b6 a9 k0;go_upto_region 29 with(fail);clear b0 b1 b2 b3 b4 c9 g6;refine yU (λu=>McI w1 u M Sb (K1++[q],c3) (.slice oa om oc) q) (d7.out.put hM rfl (m6.out _ (qm2 (qh7 hM d7.out.g.size)))) (λu5 b8=>?_);have HI5:=qgv b8;have b6:=HQE.out;have a7:=b8.s;rw[b6] at a7;have b0:=q8 a7 (o:=0) (v:=.int .i64 m0) rfl;have b1:=q8 a7 (o:=1) (v:=.int .i64 m1) rfl;have b2:=q8 a7 (o:=2) (v:=.int .i64 m2) rfl;have b3:=q8 a7 (o:=3) (v:=.int .i64 m3) rfl;have b4:=q8 a7 (o:=4) (v:=.int .i64 m4) rfl;have n4:=b8.g.size;clear b8 a7 b6;go_upto_region 30 with(at_builtin;(refine qoh _ (by rfl) _ _ _ (by rfl) w1.heap.size 118 i0 _ 5 40 Tp.und121 l9 l8 l7 l6 rfl (by omega) (.slice oa om oc) c3.length (kJ c3) (by rfl) (by exact HI5.out.o.alloc _) ⟨u5.heap.size,0,none⟩ 1 1 [.int .i64 m0,.int .i64 m1,.int .i64 m2,.int .i64 m3,.int .i64 m4] (by rfl) (by rfl) (qiw (cs:=#[m0,m1,m2,m3,m4]) (t:=118) (fr:=(0,0)) (qgF u5 _)) (by simp[qjk]) (by omega) (by unfold qkq;omega) (by omega) (by simp;omega) (u5.heap.size+1) (by simp) ?_);intro gi cap u6 c8 d6 h8 hgl;have HG6:=qgv d6;have m5:=qgv c8;have m7:=qgv h8;clear d6 c8 h8);clear b0 b1 b2 b3 b4;have HI6:=qgv (McI.push (m:=q) HI5.out hM HG6.out (by rw[HQE.out];exact m5.out) m7.out);clear ca cb za zb b7 SW AB;have a8:=HI6.out;obtain⟨ha,hb⟩:=HQ.out;have ca:=(zB a8.s ha hb).fst;have cb:=(zB a8.s ha hb).snd;have za:=qm a8.s (o:=i);have zb:=qm a8.s (o:=i+1);have b7:=qgv (zB a8.s ha hb).mid;have SW:=qgv (a8.swap hM e5 ha hb);have AB:=qgv (qhb ha hb);clear a8 ha hb;go_wp2_with (fail);refine qJ 12 (λw'=>w'.cell? ⟨Sb,i+1,none⟩=some (.int .i64 a)/\w'.frozen? ⟨Sb,i+1,none⟩=false) (by kernel_rfl) (by kernel_rfl) ⟨cb,zb⟩ (λa6=>?_);simp only[qh3,qhc,qhk,qii,qhf,qhq,qhr,qhC,qho,qhe];refine tk 0 (h:=tk 1 (h:=tk 2 (h:=tk 3 (h:=tk 4 (h:=tk 5 (h:=tk 6 (h:=tk 7 (h:=tk 8 (h:=?_)))))))));try go_frame
    refine rdc 9 λK hK=>?_;go_simp;refine hK.out _ _ (by first | exact a6 | exact⟨cb,zb⟩ | exact b7.out _ rfl) (λa6=>?_);clear hK K;try go_frame
    refine tk 10 (h:=?_);try go_frame
    refine rdc 11 λK hK=>?_;go_simp;refine hK.out _ _ (by first | exact a6 | exact⟨cb,zb⟩ | exact b7.out _ rfl) (λa6=>?_);clear hK K;try go_frame
    refine⟨by kernel_rfl,?_⟩;simp only[qhu,qia];go_wp2;go_roundw
    case rel=>exact⟨i+1,by simp,by omega,by rw[QE,<- HQ2.out.2,<- HKN.out,HV.out];rw[HQ2.out.1] at SW;exact SW.out⟩
    case measure=>simp[qi9];omega
  ·obtain rfl:i=n1:=by omega
   clear hI;go_wp2;refine HR.out _ _ wr rfl rfl ?_ HI.out.g HI.out.m HI.out.o;rw[<- HE.out.1,<- HE.out.2.1,<- HE.out.2.2.1,<- HE.out.2.2.2]
   repeat(refine qnH.2 ⟨rfl,?_⟩)
   exact qo5 _
def yC(n1:Nat)(K:List (List Int))(L:List (List Int)):List (List Int) × List (List Int):=L.foldl (vR n1) (K,[])
theorem q8F(n1:Nat)(K L:List (List Int))(s:List Int):yC n1 K (L++[s])=vR n1 (yC n1 K L) s:=by simp[yC]
theorem qdk(n:Nat)(K L:List (List Int)):qbp n K L=yC (n - 1) K L:=rfl
theorem qbo(n1:Nat)(K:List (List Int))(L:List (List Int)):(yC n1 K L).2.length<=L.length*n1:=by
 have key:∀(L:List (List Int)) (kn:List (List Int) × List (List Int)),(L.foldl (vR n1) kn).2.length<=kn.2.length+L.length*n1:=by
  intro L;induction L with
  | nil=>intro kn;simp
  | cons s L ih=>
   intro kn;have h1:=ih (vR n1 kn s);have h2:=q4o n1 kn s;simp only[List.foldl_cons,qh3,qnG];omega
 have:=key L (K,[]);rw[qhc,qhf] at this;exact this
theorem Jn{n1:Nat}{K L:List (List Int)}(h:∀s∈L,s.length=5):∀s∈(yC n1 K L).2,s.length=5:=by
 have key:∀(L:List (List Int)) (kn:List (List Int) × List (List Int)),(∀s∈L,s.length=5)->(∀s∈kn.2,s.length=5)->∀s∈(L.foldl (vR n1) kn).2,s.length=5:=by
  intro L;induction L with
  | nil=>intro kn _ h;simpa using h
  | cons s L ih=>intro kn h1 h2;exact ih _ (λt ht=>h1 t (by simp[ht])) (q8G h2 (h1 s (by simp)))
 exact key L (K,[]) h (by simp)
def bCh:List Nat:=[0,1,2,3,4,5,6,7,8,9,10,12,13,14,15,16,17,18,23,24,25,26,27,28,29,30,31,32,33,34,35,36,37,38,39,40,41,42,43,44,45,46,47,48,49,50,51,52,53,54,55,56,57,58,59,60,61,62,116,117,118,119,120,121,122]
theorem qeq:∀j∈(63::bCh),j∈cCh:=by decide
theorem qfF(z:Array qgB)(hz:z.size=123)(w1:qgx)(R:Act->qgx->Prop)(n n1 M:Nat)(st:Int)(L K:List (List Int))(pb nb:Option qi5)(pc nc:Nat)(h1:z[1]?=some (.slice pb n pc))(h9:z[9]?=some (.map (some M)))(d6:z[11]?=some (.slice none 0 0))(d5:z[12]?=some (.int .i64 st))(c9:z[61]?=some (.slice nb L.length nc))(c8:z[62]?=some (.int .i64 L.length))(h63:z[63]?=some (.int .i64 0))(hn:n<=5)(e8:n1=n - 1)(hM:M<w1.heap.size)(hL:jl w1 (.slice nb L.length nc) L)(h5:∀s∈L,s.length=5)(hl:L.length<=1000)(hK:zP w1 M K)(hst:0<=st/\st<=100000)(hR:∀(z':Array qgB) (a6:qgB) w',z'.size=123->z'[11]?=some a6->Kp bCh z z'->w1.grownBy w' (some M)->zP w' M (yC n1 K L).1->w'.ownsRow w1.heap.size 118 5 a6 (yC n1 K L).2.length (kJ (yC n1 K L).2)->R ⟨z',[]⟩ w') :mLB.wp Ya (qlt 2 (yh R)) ⟨z,[]⟩ w1:=by
 obtain⟨t,ht,rfl⟩:=Zn z hz;have e1:=ht 1 _ h1;have e9:=ht 9 _ h9;have d8:=ht 11 _ d6;have b7:=ht 12 _ d5;have b0:=ht 61 _ c9;have a9:=ht 62 _ c8;have d7:=ht 63 _ h63;clear ht h1 h9 d6 d5 c9 c8 h63;rw[e1,e9,d8,b7,b0,a9,d7];have HE:=qgv (qhb e1 (qhb e9 (qhb b7 (qhb b0 a9))));clear e1 e9 d8 b7 b0 a9 d7 hz;have ⟨HR,HL,HK,H5⟩:=zY hR hL hK h5;clear hR hL hK h5;simp only[mLB,qb1,q43,mX8,qmy,qgH,sqA,sqB,inn];go_wp2;go_loopw [11,63] (λnv iv wr=>∃k:Nat,iv=.int .i64 k/\k<=L.length/\w1.grownBy wr (some M)/\zP wr M (yC n1 K (L.take k)).1/\wr.ownsRow w1.heap.size 118 5 nv (yC n1 K (L.take k)).2.length (kJ (yC n1 K (L.take k)).2)) (λ_ iv _=>(L.length - qi9 iv).toNat)
 case atStart=>exact⟨0,rfl,by omega,qh1 _ _,HK.out,qjh _ _ _ _⟩
 case round=>
  obtain⟨k,rfl,hk,hG,a8,hO⟩:=hrel;have ⟨HG,HMp,HO⟩:=z8 hG a8 hO;by_cases hlt:k<L.length
  ·obtain⟨s,hs⟩:∃s,L[k]?=some s:=⟨_,qgG hlt⟩;have d9:=H5.out s (qhg hs);have b8:=HL.out.keptM hG (λcs fr=>HK.out.not _ _ _);obtain⟨B,o,rfl,e4,c0,c1,c2,c3,c4⟩:=b8.at hs;have e5:(k:Int)<(L.length:Int):=by omega
   have e7:IntKind.i64.wrap ((k:Int)+1)=(k:Int)+1:=qhp _ (by omega);have e6:IntKind.i64.wrap ((n:Int) - 1)=(n:Int) - 1:=qhp _ (by omega);have hlen:=qbo n1 K (L.take k);rw[qjz,qp9 hk] at hlen;have HS:=qgv hs;obtain⟨a0,a1,a2,a3,a4,rfl⟩:=q8q d9;clear hG a8 hO b8 hs;go_upto_region 22 with(fail);obtain⟨Sb,a7⟩:∃Sb,Sb=wr.heap.size:=⟨_,rfl⟩;rw[<- a7];refine yU (λu=>McI w1 u M Sb (yC n1 K (L.take k)) u11 [a0,a1,a2,a3,a4]) ⟨HG.out.andThen (qgw _ _ none) (by simp),HMp.out.kept ((qgw wr _ none).block M (by have:=HG.out.size;omega) (by simp)),HO.out.alloc _,λb e=>by have:=(HO.out.lt b e).2;omega,by rw[a7];exact qgF _ _⟩ (λu hI=>?_);have HI:=qgv hI;have b9:w1.heap.size<=Sb:=by have:=HG.out.size;omega
   clear hI a7 c0 c1 c2 c3 c4 e4;go_wp2;all_goals
    refine qni (jY (R:=λa u=>∃x:Nat->qgB,a=⟨#[t 0,.slice pb n pc,t 2,t 3,t 4,t 5,t 6,t 7,t 8,.map (some M),t 10,x 11,.int .i64 st,t 13,t 14,t 15,t 16,t 17,t 18,x 19,x 20,x 21,x 22,t 23,t 24,t 25,t 26,t 27,t 28,t 29,t 30,t 31,t 32,t 33,t 34,t 35,t 36,t 37,t 38,t 39,t 40,t 41,t 42,t 43,t 44,t 45,t 46,t 47,t 48,t 49,t 50,t 51,t 52,t 53,t 54,t 55,t 56,t 57,t 58,t 59,t 60,.slice (some ⟨B,o,none⟩) L.length nc,.int .i64 L.length,.int .i64 k,x 64,x 65,x 66,x 67,x 68,x 69,x 70,x 71,x 72,x 73,x 74,x 75,x 76,x 77,x 78,x 79,x 80,x 81,x 82,x 83,x 84,x 85,x 86,x 87,x 88,x 89,x 90,x 91,x 92,x 93,x 94,x 95,x 96,x 97,x 98,x 99,x 100,x 101,x 102,x 103,x 104,x 105,x 106,x 107,x 108,x 109,x 110,x 111,x 112,x 113,x 114,x 115,t 116,t 117,t 118,t 119,t 120,t 121,t 122],[]⟩/\w1.grownBy u (some M)/\zP u M (yC n1 K (L.take (k+1))).1/\u.ownsRow w1.heap.size 118 5 (x 11) (yC n1 K (L.take (k+1))).2.length (kJ (yC n1 K (L.take (k+1))).2)) ?_) ?_;rotate_left
    ·refine xy (c':=mLC) (by simp only[mLC,mB3,mLB,qb1,q43,mX8,qmy,qgH,sqA,sqB,inn]) ?_;refine qfE _ rfl w1 u _ n1 M Sb st [a0,a1,a2,a3,a4] (yC n1 K (L.take k)).1 (yC n1 K (L.take k)).2 u11 rfl rfl rfl rfl (congrArg some (congrArg (qhj .i64) (by omega))) rfl (by omega) rfl hM b9 HI.out.s HI.out.g HI.out.m HI.out.o HI.out.n (by have:k*n1<=1000*4:=Nat.mul_le_mul (by omega) (by omega);omega) hst (Jn λs hs=>H5.out s (qlr hs)) ?_;intro z' a6 w' b1 b2 b3 b4 b5 b6;rw[show(yC n1 K (L.take k)).1=(yC n1 K (L.take k)).1 from rfl] at b5;have hT:vR n1 ((yC n1 K (L.take k)).1,(yC n1 K (L.take k)).2) [a0,a1,a2,a3,a4]=yC n1 K (L.take (k+1)):=by rw[qig,HS.out];exact(q8F _ _ _ _).symm
     rw[hT] at b5 b6;refine⟨λj=>z'[j]?.getD qgD,congrArg (λz=>(⟨z,[]⟩:Act)) ((qb8 (63::bCh) _ z' b1 (λj hj=>b3 j (qeq j hj))).trans ?_),b4,b5,?_⟩
     ·rfl
     ·show w'.ownsRow _ _ _ (z'[11]?.getD qgD) _ _;rw[b2];exact b6
    ·rintro a u2 ⟨x,rfl,g1,g2,g3⟩;have ⟨G1,G2,G3⟩:=z8 g1 g2 g3;clear g1 g2 g3;go_wp2;go_roundw
     case rel=>exact⟨k+1,by simp,by omega,G1.out,G2.out,G3.out⟩
     case measure=>simp[qi9];omega
  ·obtain rfl:k=L.length:=by omega
   clear hG a8 hO;go_wp2;have h1:=HMp.out;have h2:=HO.out;rw[qis] at h1 h2;refine HR.out _ _ wr rfl rfl ?_ HG.out h1 h2;rw[<- HE.out.1,<- HE.out.2.1,<- HE.out.2.2.1,<- HE.out.2.2.2.1,<- HE.out.2.2.2.2]
   repeat(refine qnH.2 ⟨rfl,?_⟩)
   exact qo5 _
def qfx(ps:List Par)(b:Bool × List Int)(s:List Int):Bool × List Int:=if qz ps (pre Par.mx ps ps.length) (zl s)=true then(true,if b.1=true/\q1q (zl s) b.2=false then b.2 else zl s) else b
theorem q6o(ps:List Par)(L:List (List Int))(s:List Int):jA ps (L++[s])=qfx ps (jA ps L) s:=by rw[jA,qqk];rfl
def aKl:List Nat:=[0,1,2,3,4,5,6,7,8,9,10,11,12,13,14,15,18,19,20,21,22,23,24,25,26,27,28,29,30,31,32,33,34,35,36,37,38,39,40,41,42,56,57,58,59,60,61,62,63,64,65,66,67,68,69,70,71,72,73,74,75,76,77,78,79,80,81,82,83,84,85,86,87,88,89,90,91,92,93,94,95,96,97,98,99,100,101,102,103,104,105,106,107,108,109,110,111,112,113,114,115,116,117,118,119,120,121,122]
theorem qfG(z:Array qgB)(hz:z.size=123)(w1:qgx)(R:Act->qgx->Prop)(Yb Lb:Nat)(ps:List Par)(lim:Int)(pv:qgB)(L:List (List Int))(nb:Option qi5)(nc:Nat)(h7:z[7]?=some (.pointer (some Yb)))(g6:z[13]?=some (.pointer (some Lb)))(g5:z[14]?=some (.func (.func 103) #[.pointer (some Lb)] #[]))(e9:z[41]?=some (.slice nb L.length nc))(e8:z[42]?=some (.int .i64 L.length))(e6:z[43]?=some (.int .i64 0))(hY:w1.heap[Yb]?=some (.cells #[pv,lim] 91 (0,0)))(hP:qn 0 Lb w1 pv ps)(e5:w1.heap[Lb]?=some (.cells #[.func (.func 99) #[] #[],.slice none 0 0,.bool false] 108 (0,0)))(hok:YOk ps lim)(hL:jl w1 (.slice nb L.length nc) L)(hall:L.all (okS ps lim)=true)(hl:L.length<=1000)(hR:∀(z':Array qgB) (bv:qgB) w',z'.size=123->Kp aKl z z'->w1.grownBy w' (some Lb)->w'.heap[Lb]?=some (.cells #[.func (.func 99) #[] #[],bv,.bool (jA ps L).1] 108 (0,0))->qf 0 w'.heap.size w' bv (jA ps L).2->R ⟨z',[]⟩ w') :mLA.wp Ya (qlt 0 (yh R)) ⟨z,[]⟩ w1:=by
 obtain⟨t,ht,rfl⟩:=Zn z hz;have e7:=ht 7 _ h7;have c8:=ht 13 _ g6;have b9:=ht 14 _ g5;have b8:=ht 41 _ e9;have b7:=ht 42 _ e8;have g7:=ht 43 _ e6;clear ht h7 g6 g5 e9 e8 e6;obtain⟨yb,yc,rfl,k6,-⟩:=hP.cell;rw[e7,c8,b9,b8,b7,g7];have HE:=qgv (qhb e7 (qhb c8 (qhb b9 (qhb b8 b7))));clear e7 c8 b9 b8 b7 g7 hz;have ⟨HR,HY,HP,HLB,HOK,HL⟩:=Kh hR hY hP e5 hok hL;have HA:=qgv (qid.1 hall);clear hR hY hP e5 hok hL hall;simp only[mLA,q43,mX8,qmy,qgH,sqA,sqB,inn];go_wp2;go_loopw [43] (λiv wr=>∃(k:Nat) (bv:qgB),iv=.int .i64 k/\k<=L.length/\w1.grownBy wr (some Lb)/\wr.heap[Lb]?=some (.cells #[.func (.func 99) #[] #[],bv,.bool (jA ps (L.take k)).1] 108 (0,0))/\qf 0 wr.heap.size wr bv (jA ps (L.take k)).2) (λiv _=>(L.length - qi9 iv).toNat)
 case atStart=>exact⟨0,_,rfl,by omega,qh1 _ _,HLB.out,qf.nil _ _ _⟩
 case round=>
  obtain⟨k,bv,rfl,hk,hG,hB,hI⟩:=hrel;have ⟨HG,HB,HI⟩:=z8 hG hB hI;by_cases hlt:k<L.length
  ·obtain⟨s,hs⟩:∃s,L[k]?=some s:=⟨_,qgG hlt⟩;have a8:=HA.out s (qhg hs);obtain⟨h8,d5⟩:=Q8 a8;have e4:=HL.out.keptM hG (λcs fr e=>by rw[HLB.out] at e;injection e with e;injection e with _ e _;exact absurd e (by decide));obtain⟨B,o,rfl,h9,c0,c1,c2,c3,c4⟩:=e4.at hs;have k5:(k:Int)<(L.length:Int):=by omega
   have k7:IntKind.i64.wrap ((k:Int)+1)=(k:Int)+1:=qhp _ (by omega);have ⟨HS,HPO⟩:=qH hs d5;obtain⟨a0,a1,a2,a3,a4,rfl⟩:=q8q h8;clear hG hB hI e4 hs a8 d5;go_upto_region 13 with(fail);obtain⟨X,hX⟩:∃X,X=wr.heap.size:=⟨_,rfl⟩;rw[<- hX];refine yU (λu=>(w1.grownBy u (some Lb)/\u.heap[Lb]?=some (.cells #[.func (.func 99) #[] #[],bv,.bool (jA ps (L.take k)).1] 108 (0,0))/\qf 0 u.heap.size u bv (jA ps (L.take k)).2)/\u.heap[X]?=some (.cells #[a0,a1,a2,a3,a4] 118 (0,0))) ⟨⟨HG.out.andThen (qgw _ _ none) (by simp),qp HB.out,(HI.out.alloc _).mono (qgA _) (by rw[qh6];omega)⟩,by rw[hX];exact qgF _ _⟩ (λu hF=>?_);obtain⟨⟨f1,f2,f3⟩,f4⟩:=hF;have ⟨F1,F2,F3⟩:=z8 f1 f2 f3;have b0:=q8 f4 (o:=0) (v:=.int .i64 a0) rfl;have b1:=q8 f4 (o:=1) (v:=.int .i64 a1) rfl;have b2:=q8 f4 (o:=2) (v:=.int .i64 a2) rfl;have b3:=q8 f4 (o:=3) (v:=.int .i64 a3) rfl;have b4:=q8 f4 (o:=4) (v:=.int .i64 a4) rfl;have a9:=qb5 [a0,a1,a2,a3,a4] rfl;have b6:=qgv (show ∀w,qhw Ya 113 #[.agg #[a0,a1,a2,a3,a4]] w λe w'=>∃v,e=.returned v/\w.grownBy w' none/\qf w.heap.size w'.heap.size w' v (zl [a0,a1,a2,a3,a4]) from a9);have a6:=qgv (show jA ps (L.take k++[[a0,a1,a2,a3,a4]])=if qz ps (pre Par.mx ps ps.length) (zl [a0,a1,a2,a3,a4])=true then(true,if(jA ps (L.take k)).1=true/\q1q (zl [a0,a1,a2,a3,a4]) (jA ps (L.take k)).2=false then(jA ps (L.take k)).2 else zl [a0,a1,a2,a3,a4]) else jA ps (L.take k) from q6o ps (L.take k) [a0,a1,a2,a3,a4]);have g8:=qgv (show L.take k++[[a0,a1,a2,a3,a4]]=L.take (k+1) by rw[qig,HS.out];rfl);generalize zl [a0,a1,a2,a3,a4]=l at HPO b6 a6;clear f1 f2 f3 f4 c0 c1 c2 c3 c4 h9 a9 hX;go_upto_region 14 with(go_at_call 113;refine(b6.out _).mono ?_;rintro e w2 ⟨v,rfl,d8,d6⟩;have HG2:=qgv d8;have HI2:=qgv (d6.mono (qhx _) (qgA _));clear d8 d6);clear b0 b1 b2 b3 b4;obtain⟨vb,vc,rfl,-,-⟩:=HI2.out.cell;have gY:=F1.out.andThen HG2.out (by simp);have y2:=blk gY (λe=>by cases e;have h:=HY.out;rw[HLB.out] at h;injection h with h;injection h with _ h _;exact absurd h (by decide)) HY.out;have y0:=q8 y2 (o:=0) rfl;have y1:=q8 y2 (o:=1) rfl;have g9:=qgv ((HP.out.kept gY (λR e=>by cases e;exact .inr (qgA _))).mono (qgA _) (qqn (qh7 (qx HLB.out) gY.size)));have GY:=qgv gY;clear gY y2;cases hst:qz ps (pre Par.mx ps ps.length) l with
   | false=>
    have HST:=qgv hst;clear hst;go_wp2_with (go_at_call 114;refine(q2j 0 _ _ _ ps lim l w2 ⟨_,rfl,g9.out⟩ HI2.out (qgA _) HOK.out HPO.out).mono ?_;rintro e w3 ⟨rfl,a7⟩;rw[HST.out];have HG3:=qgv a7;clear a7);go_roundw
    case rel=>
     rw[g8.out,if_neg (by rw[HST.out];simp)] at a6;have hg:=HG2.out.trans HG3.out;refine⟨k+1,bv,by simp,by omega,F1.out.andThen hg (by simp),?_,?_⟩
     ·rw[a6.out];exact bk hg F2.out
     ·rw[a6.out];exact(F3.out.kept hg).mono (qgA _) hg.size
    case measure=>simp[qi9];omega
   | true=>
    have HST:=qgv hst;clear hst;go_wp2_with (first
     | (go_at_call 114;refine(q2j 0 _ _ _ ps lim l w2 ⟨_,rfl,g9.out⟩ HI2.out (qgA _) HOK.out HPO.out).mono ?_;rintro e w3 ⟨rfl,a7⟩;rw[HST.out];have HG3:=qgv a7;clear a7)
     | (go_at_call 103;refine(q7y Lb (jA ps (L.take k)).1 bv _ (jA ps (L.take k)).2 l w3 (bk (HG2.out.trans HG3.out) F2.out) ((F3.out.kept (HG2.out.trans HG3.out)).mono (qgA _) (HG2.out.trans HG3.out).size) ((HI2.out.kept HG3.out).mono (qgA _) HG3.out.size)).mono ?_;rintro e w4 ⟨rfl,d7,c9⟩;have HG4:=qgv d7;have k0:=qgv c9;clear d7 c9))
    go_roundw
    case rel=>
     rw[g8.out,if_pos HST.out] at a6;have hg:=HG2.out.trans HG3.out;have d9:=bk hg F2.out;refine⟨k+1,_,by simp,by omega,(F1.out.andThen hg (by simp)).trans HG4.out,by rw[a6.out];exact k0.out,?_⟩;rw[a6.out];dsimp only;split
     ·exact(((F3.out.kept hg).mono (qgA _) hg.size).keptT HG4.out d9 (by decide)).mono (qgA _) HG4.out.size
     ·exact(((HI2.out.kept HG3.out).mono (qgA _) HG3.out.size).keptT HG4.out d9 (by decide)).mono (qgA _) HG4.out.size
    case measure=>simp[qi9];omega
  ·obtain rfl:k=L.length:=by omega
   clear hG hB hI;go_wp2;have h1:=HB.out;have h2:=HI.out;rw[qis] at h1 h2;refine HR.out _ _ wr rfl ?_ HG.out h1 h2;rw[<- HE.out.1,<- HE.out.2.2.1,<- HE.out.2.1,<- HE.out.2.2.2.1,<- HE.out.2.2.2.2]
   repeat(refine qnH.2 ⟨rfl,?_⟩)
   exact qo5 _
theorem qbf{w w':qgx}(h:w.grownBy w' none)(r:Option Nat):w.grownBy w' r:=⟨h.os,h.tape,h.output,h.size,λk hk _=>h.block k hk (by simp)⟩
def MJ(ps:List Par)(lim:Int)(w0:qgx)(pb:Option qi5)(n pc f0:Nat)(pv:qgB)(o:Option (Int × List Int))(a:Act)(w:qgx):Prop :=
 ∃(z:Array qgB) (Yb M st f:Nat) (K now:List (List Int)) (nb:Option qi5) (nc:Nat),a=⟨z,[]⟩/\z.size=123/\z[1]?=some (.slice pb n pc)/\z[7]?=some (.pointer (some Yb))/\z[9]?=some (.map (some M))/\z[10]?=some (.slice nb now.length nc)/\z[11]?=some (.slice none 0 0)/\z[12]?=some (.int .i64 st) /\
  st+f=f0/\q19 ps lim n f K now st=some o/\zP w M K/\w0.heap.size<=M/\jl w (.slice nb now.length nc) now/\w0.grownBy w none/\w.heap[Yb]?=some (.cells #[pv,lim] 91 (0,0))/\qn 0 w0.heap.size w pv ps
def qee(o:Option (Int × List Int))(z:Array qgB)(w:qgx):Prop :=
 match o with
 | some (st,r)=>∃v,z[4]?=some (.int .i64 st)/\z[5]?=some v/\z[6]?=some (.int .i64 0)/\qf 0 w.heap.size w v r
 | none=>z[4]?=some (.int .i64 0)/\z[5]?=some (.slice none 0 0)/\z[6]?=some (.int .i64 11)
theorem KS{w:qgx}{M:Nat}{es:Array qkk}{cl:Nat}(ty:qh8)(h:w.heap[M]?=some (.map es cl)):(qna #[120] ty #[.map (some M)]).run Ya w=.ok (.tuple #[]) (w.putObj M (.map #[] cl)):=by
 simp[qna,qiy,qnj Tp.und120,getObj,setObj,qih,h,qmk,World.putObj]
def qcv(a:Act):Int:=qi9 (a.tmps.getD 12 qgD)
theorem qe4(ps:List Par)(lim:Int)(w0 w:qgx)(pb:Option qi5)(n pc f0:Nat)(pv:qgB)(o:Option (Int × List Int))(a:Act)(Q:Exit->Act->qgx->Prop)(hJ:MJ ps lim w0 pb n pc f0 pv o a w)(hok:YOk ps lim)(hn:n<=5)(hf:f0<=1000)(hQ:∀(z':Array qgB) w',z'.size=123->qee o z' w'->w0.grownBy w' none->Q .ret ⟨z',[]⟩ w') :mX8.wp Ya (qpr 0 (λa' w'=>MJ ps lim w0 pb n pc f0 pv o a' w'/\(f0 - qcv a').toNat<(f0 - qcv a).toNat) Q) a w:=by
 obtain⟨z,Yb,M,st,f,K,now,nb,nc,rfl,hz,h1,h7,h9,g9,g8,g7,hst,hm,hM,a7,hN,hG,hY,hP⟩:=hJ;obtain⟨t,ht,rfl⟩:=Zn z hz;have e1:=ht 1 _ h1;have e7:=ht 7 _ h7;have e9:=ht 9 _ h9;have k5:=ht 10 _ g9;have k0:=ht 11 _ g8;have h8:=ht 12 _ g7;clear ht h1 h7 h9 g9 g8 g7 hz;obtain⟨yb,yc,rfl,m5,-⟩:=hP.cell;rw[e1,e7,e9,k5,k0,h8];clear e1 e7 e9 k5 k0 h8;cases f with
 | zero=>cases hm
 | succ f=>
  unfold q19 at hm;split at hm
  ·rename_i hall
   obtain⟨hall,hl⟩:=hall;have ⟨HALL,HQ,HMM,HM,HN,HG,HY,HP⟩:=qbe hall hQ hm hM hN hG hY hP;have k8:M<w.heap.size:=by obtain⟨es,cl,e,-⟩:=hM;exact qx e
   clear hQ hm hM hN hG hY hP hall;simp only[mX8,qmy,qgH,sqA,sqB,inn];have m7:∀(a:qi5) (fn:Fn) (x y:Array qgB) (m:Mode) (w:qgx),(store a (.func fn x y) m).run Ya w=stored Ya w a (.func fn x y) m:=λa fn x y m w=>run_store _ w a _ m rfl;go_upto_region 10 with(fail);obtain⟨Lb,c8⟩:∃Lb,Lb=w.heap.size:=⟨_,rfl⟩;rw[<- c8];have c9:=qgw w (.cells #[.func (.func 99) #[] #[],.slice none 0 0,.bool false] 108) none;have n2:=qgv c9;refine yU (λu=>(w.grownBy u none/\u.heap[Lb]?=some (.cells #[.func (.func 99) #[] #[],.slice none 0 0,.bool false] 108 (0,0)))) ⟨c9,by rw[c8];exact qgF _ _⟩ (λu hF=>?_);obtain⟨g1,b1⟩:=hF;have ⟨G1,B1,HLE⟩:=z8 g1 b1 c8;have m9:M<Lb:=by omega
   have d9:w0.heap.size<=Lb:=by have:=HG.out.size;omega
   clear g1 b1 c9 c8;go_upto_region 17 with(fail);refine qni (jY (R:=λa u2=>∃(z':Array qgB) (bv:qgB),a=⟨z',[]⟩/\z'.size=123/\z'[1]?=some (.slice pb n pc)/\z'[7]?=some (.pointer (some Yb))/\z'[9]?=some (.map (some M))/\z'[10]?=some (.slice nb now.length nc)/\z'[11]?=some (.slice none 0 0)/\z'[12]?=some (.int .i64 st)/\z'[13]?=some (.pointer (some Lb)) /\
    u.grownBy u2 (some Lb)/\u2.heap[Lb]?=some (.cells #[.func (.func 99) #[] #[],bv,.bool (jA ps now).1] 108 (0,0))/\qf 0 u2.heap.size u2 bv (jA ps now).2) ?_) ?_
   rotate_left
   ·refine xy (c':=mLA) (by simp only[mLA,q43,mX8,qmy,qgH,sqA,sqB,inn]) ?_;refine qfG _ rfl u _ Yb Lb ps lim (.slice yb ps.length yc) now nb nc rfl rfl rfl rfl rfl rfl (bk G1.out HY.out) ((HP.out.kept G1.out).mono (qgA _) d9) B1.out hok (HN.out.keptM (M:=M) (qbf G1.out _) (λcs fr=>HM.out.not _ _ _)) HALL.out hl ?_;intro z' bv w' b1 b2 b3 b4 b5;exact⟨z',bv,rfl,b1,b2 1 (by decide),b2 7 (by decide),b2 9 (by decide),b2 10 (by decide),b2 11 (by decide),b2 12 (by decide),b2 13 (by decide),b3,b4,b5⟩
   ·rintro a u2 ⟨z',bv,rfl,b9,k1,k7,k9,d6,b0,a9,d5,f1,f2,f3⟩;obtain⟨t2,a6,rfl⟩:=Zn z' b9;have j1:=a6 1 _ k1;have j7:=a6 7 _ k7;have j9:=a6 9 _ k9;have d8:=a6 10 _ d6;have b8:=a6 11 _ b0;have b7:=a6 12 _ a9;have d7:=a6 13 _ d5;clear a6 k1 k7 k9 d6 b0 a9 d5;rw[j1,j7,j9,d8,b8,b7,d7];clear j1 j7 j9 d8 b8 b7 d7 b9;obtain⟨bb,bc,rfl,-,-⟩:=f3.cell;have e5:w.grownBy u2 none:=xH G1.out f1 (by rw[HLE.out];exact qgA _);have c1:=q8 f2 (o:=1) rfl;have c2:=q8 f2 (o:=2) rfl;have ⟨F3,HGW⟩:=qH f3 e5;have k6:M<u2.heap.size:=by have:=e5.size;omega
    have m8:=qx f2;clear f1 f2 f3;cases hb:(jA ps now).1 with
    | true=>
     rw[if_pos hb] at HMM;rw[hb] at c2;clear hb;go_wp2_with (fail);go_quiet (fail);go_wp2;simp only[qpr];have hm:=HMM.out;cases hm;exact HQ.out _ _ rfl ⟨_,rfl,rfl,rfl,(F3.out.kept (qi _ _ none)).mono (qgA _) (qgA _)⟩ ((HG.out.trans HGW.out).trans (qi _ _ none))
    | false=>
     rw[if_neg (by rw[hb];simp)] at HMM;rw[hb] at c2;clear hb;have g6:zP u2 M K:=HM.out.kept (HGW.out.block M k8 (by simp));have g5:jl u2 (.slice nb now.length nc) now:=HN.out.keptM (M:=M) (qbf HGW.out _) (λcs fr=>HM.out.not _ _ _);have ⟨hMK,hNK⟩:=qH g6 g5;clear g6 g5;go_upto_region 33 with(fail);refine qni (jY (R:=λa u3=>∃(z':Array qgB) (nv:qgB),a=⟨z',[]⟩/\z'.size=123/\z'[1]?=some (.slice pb n pc)/\z'[7]?=some (.pointer (some Yb))/\z'[9]?=some (.map (some M))/\z'[11]?=some nv/\z'[12]?=some (.int .i64 st) /\
      u2.grownBy u3 (some M)/\zP u3 M (yC (n - 1) K now).1/\u3.ownsRow u2.heap.size 118 5 nv (yC (n - 1) K now).2.length (kJ (yC (n - 1) K now).2)) ?_) ?_
     rotate_left
     ·refine xy (c':=mLB) (by simp only[mLB,qb1,q43,mX8,qmy,qgH,sqA,sqB,inn]) ?_;refine qfF _ rfl u2 _ n (n - 1) M st now K pb nb pc nc rfl rfl rfl rfl rfl rfl rfl hn rfl k6 hNK.out (λs hs=>(Q8 (qid.1 HALL.out s hs)).1) hl hMK.out (by omega) ?_;intro z' nv w' b1 b2 b3 b4 b5 b6;exact⟨z',nv,rfl,b1,b3 1 (by decide),b3 7 (by decide),b3 9 (by decide),b2,b3 12 (by decide),b4,b5,b6⟩
     ·rintro a u3 ⟨z',nv,rfl,b9,k1,k7,k9,b0,a9,f1,f2,f3⟩;obtain⟨t3,a8,rfl⟩:=Zn z' b9;have j1:=a8 1 _ k1;have j7:=a8 7 _ k7;have j9:=a8 9 _ k9;have b8:=a8 11 _ b0;have b7:=a8 12 _ a9;clear a8 k1 k7 k9 b0 a9;rw[j1,j7,j9,b8,b7];clear j1 j7 j9 b8 b7 b9 c1 c2;obtain⟨m4,l7,l9,rfl⟩:=zt f3;have ⟨F1,F2⟩:=qH f1 f2;have hS:=jl.own f3 (Jn λs hs=>(Q8 (qid.1 HALL.out s hs)).1);obtain⟨m3,l8,e3,-⟩:=hS;cases e3;have HS:=qgv (jl.own f3 (Jn λs hs=>(Q8 (qid.1 HALL.out s hs)).1));have hm:=HMM.out;rw[qdk] at hm;have m6:IntKind.i64.wrap ((st:Int)+1)=(st:Int)+1:=qhp _ (by omega);have e6:w0.grownBy u3 none:=xH (HG.out.trans HGW.out) F1.out a7;have e8:w.grownBy u3 (some M):=(qbf HGW.out _).trans F1.out;have ⟨HG3,HG0⟩:=qH e6 e8;clear f1 f2 f3 e6 e8;split at hm
      ·rename_i hle
       split at hm
       ·rename_i c3
        cases hm;rw[c3];obtain⟨es,cl,e4,-⟩:=F2.out;have hcl:=KS 0 e4;clear e4;go_wp2;simp only[qpr];exact HQ.out _ _ rfl ⟨rfl,rfl,rfl⟩ (xH HG3.out (qkn _ _ _) a7)
       ·rename_i c3
        have l6:(0:Int)<((yC (n - 1) K now).2.length:Int):=by
         have:=ql4.2 c3;omega
        have l5:=qgv hm;clear hm;go_wp2;go_step3;have l4:Yb≠M:=λe=>by rw[e] at HY;exact HM.out.not _ _ _ HY.out
        refine⟨rfl,⟨_,Yb,M,st+1,f,_,_,_,_,rfl,rfl,rfl,rfl,rfl,rfl,rfl,by simp,by omega,by simpa using l5.out,F2.out,a7,HS.out,HG3.out,blk HG0.out (by simpa using l4) HY.out,HP.out.kept HG0.out (λR e=>by cases e;exact .inr a7)⟩,?_⟩;simp[qcv,qi9];omega
      ·cases hm
  ·cases hm
def qef(w0:qgx)(o:Option (Int × List Int))(e:Ending)(w':qgx):Prop :=
 w0.grownBy w' none/\match o with
 | some (st,r)=>∃v,e=.returned (.tuple #[st,v,.int .i64 0])/\qf 0 w'.heap.size w' v r
 | none=>e=.returned (.tuple #[.int .i64 0,.slice none 0 0,.int .i64 11])
theorem q8v{l:Nat}{J J':Act->qgx->Prop}{Q:Exit->Act->qgx->Prop}(h:∀a w,J a w->J' a w):∀e a w,qpr l J Q e a w->qpr l J' Q e a w:=by
 intro e a w hh;cases e with
 | goto l'=>exact⟨hh.1,h _ _ hh.2⟩
 | _=>exact hh
theorem q41{w w':qgx}{o:Option (Int × List Int)}{z:Array qgB}(hz:z.size=123)(hR:qee o z w')(hg:w.grownBy w' none):bodyPost Ya qmy (λe w'=>qef w o e w') .ret ⟨z,[]⟩ w':=by
 obtain⟨t,ht,rfl⟩:=Zn z hz;cases o with
 | none=>
  obtain⟨h4,h5,h6⟩:=hR;have e4:=ht 4 _ h4;have e5:=ht 5 _ h5;have e6:=ht 6 _ h6;rw[e4,e5,e6];exact qj8 (v:=.tuple #[.int .i64 0,.slice none 0 0,.int .i64 11]) (by simp[qjb,qr7,go_sem]) rfl ⟨hg,rfl⟩
 | some p=>
  obtain⟨st,r⟩:=p;obtain⟨v,h4,h5,h6,hi⟩:=hR;have e4:=ht 4 _ h4;have e5:=ht 5 _ h5;have e6:=ht 6 _ h6;rw[e4,e5,e6];exact qj8 (v:=.tuple #[st,v,.int .i64 0]) (by simp[qjb,qr7,go_sem]) rfl ⟨hg,v,rfl,hi⟩
theorem qd6(pv qv:qgB)(ps:List Par)(lim:Int)(l:List Int)(w:qgx)(hP:qn 0 w.heap.size w pv ps)(hI:qf 0 w.heap.size w qv l)(hok:YOk ps lim)(hp:POk ps lim l)(f0:Nat)(hf:f0<=1000)(o:Option (Int × List Int))(hm:q19 ps lim l.length f0 [zR l] [zR l] 0=some o) :qhw Ya 54 #[.agg #[pv,lim],qv] w λe w'=>qef w o e w':=by
 obtain⟨yb,yc,rfl,g9,-⟩:=hP.cell;obtain⟨pb,pc,rfl,-,-⟩:=hI.cell;have k0:=hp.len;have ⟨HP,HI,HOK,HPO,HM⟩:=ZS hP hI hok hp hm;clear hP hI hok hp hm;go_enter Tp.x54,Tryz.ntmps54;have a6:l.length<=5:=by
  cases f0 with
  | zero=>cases HM.out
  | succ f=>
   have h:=HM.out;unfold q19 at h;split at h
   ·rename_i h1
    have:=(Q8 (qid.1 h1.1 (zR l) (by simp))).1;unfold zR at this;rw[qio] at this;omega
   ·cases h
 go_wp2;refine wp_scope_jumps 0 (MJ ps lim w pb l.length pc f0 (.slice yb ps.length yc) o) (λa _=>(f0 - qcv a).toNat) rfl ?_ ?_
 ·go_upto_region 4 with(go_at_call 81;refine(xh 0 w.heap.size _ _ ps lim l _ (HP.out.kept (qgw _ _ none)) (HI.out.kept (qgw _ _ none)) (by simp) HOK.out HPO.out).mono ?_;rintro e w2 ⟨rfl,e8⟩;have HG2:=qgv ((qgw w (.cells #[.slice yb ps.length yc,lim] 24) none).trans e8);clear e8);obtain⟨Yb,c9⟩:∃Yb,Yb=w2.heap.size:=⟨_,rfl⟩;rw[<- c9];refine yU (λu=>w.grownBy u none/\u.heap[Yb]?=some (.cells #[.slice yb ps.length yc,lim] 91 (0,0))) ⟨HG2.out.trans (qgw _ _ none),by rw[c9];exact qgF _ _⟩ (λu hF=>?_);obtain⟨g3,y3⟩:=hF;have ⟨G3,Y3⟩:=qH g3 y3;clear g3 y3 c9 HG2;obtain⟨M,a8⟩:∃M,M=u.heap.size:=⟨_,rfl⟩;have b0:zP (u.alloc (.map #[] 0)) M []:=zP.nil (by rw[a8];exact qgF u (.map #[] 0));have b6:=qgv b0;have a7:u.grownBy (u.alloc (.map #[] 0)) none:=qgw _ _ none;have HGM:=qgv a7;have d5:M<(u.alloc (.map #[] 0)).heap.size:=by rw[a8,qh6];omega
  have h5:=Z9 a6;obtain⟨x0,x1,x2,x3,x4,d7⟩:=q8q h5;have HXE:=qgv d7;have e9:(qop 120 none).run Ya u=.ok (.map (some M)) (u.alloc (.map #[] 0)):=by rw[a8];rfl
  clear b0 h5 d7;go_upto_region 5 with(go_at_call 112;refine(Ju 0 _ _ l _ ((HI.out.kept (G3.out.trans a7)).mono (qgA _) (G3.out.trans a7).size) a6).mono ?_;rintro e w5 ⟨rfl,c3⟩;have HG5:=qgv c3;have e4:=b6.out.kept (c3.block M d5 (by simp));obtain⟨ob,h9,b8,e6⟩:=e4.add (zR l) (Z9 a6) (by simp) 0;have g7:=qgv e6;clear e6 c3 e4;rw[HXE.out] at b8 ⊢;have d9:(qiB 120 (.map (some u.heap.size)) (.agg #[x0,x1,x2,x3,x4]) (.int .i64 0)).run Ya w5=.ok () (w5.putObj M ob):=a8 ▸ b8;clear b8;unfold A5);rw[<- a8];have e7:M<w5.heap.size:=qh7 d5 HG5.out.size;have d8:w.heap.size<=M:=by have:=G3.out.size;omega
  refine yU (λv=>w.grownBy v none/\v.heap[Yb]?=some (.cells #[.slice yb ps.length yc,lim] 91 (0,0))/\zP v M [zR l]) ⟨xH (G3.out.trans (a7.trans HG5.out)) (qkn _ _ _) d8,blk (qkn _ _ _) (λe=>by cases e;have:=qx Y3.out;omega) (bk (a7.trans HG5.out) Y3.out),g7.out _ (qm2 e7)⟩ (λu6 hF=>?_);obtain⟨g6,y6,m6⟩:=hF;have ⟨G6,Y6,M6⟩:=z8 g6 y6 m6;have h8:=g6.size;clear g6 y6 m6 d9 e9 b6 a7 HGM d5 e7 a8;go_upto_region 6 with(go_at_call 112;refine(Ju 0 _ _ l _ ((HI.out.kept G6.out).mono (qgA _) G6.out.size) a6).mono ?_;rintro e w7 ⟨rfl,e5⟩;have HG7:=qgv e5;clear e5;rw[HXE.out];unfold A5);have b9:=M6.out;have c8:(w7.alloc (.cells #[x0,x1,x2,x3,x4] 118)).heap[w7.heap.size]?=some (.cells #[x0,x1,x2,x3,x4] 118 (0,0)):=qgF w7 _;have a9:=HG7.out.trans (qgw w7 (.cells #[x0,x1,x2,x3,x4] 118) none);have g5:M<u6.heap.size:=by obtain⟨es,cl,e,-⟩:=b9;exact qx e
  obtain⟨B7,d6⟩:∃B7,B7=w7.heap.size:=⟨_,rfl⟩;rw[<- d6] at c8;rw[<- d6];refine yU (λv=>w.grownBy v none/\v.heap[Yb]?=some (.cells #[.slice yb ps.length yc,lim] 91 (0,0))/\zP v M [zR l]/\jl v (.slice (some B7) [zR l].length 1) [zR l]) ⟨G6.out.trans a9,bk a9 Y6.out,b9.kept (a9.block M g5 (by simp)),_,_,rfl,λ_=>⟨B7,0,_,_,rfl,c8,λi s hi d hd=>by
   rcases i with _ | i
   ·simp at hi;subst hi;rw[HXE.out];obtain rfl | rfl | rfl | rfl | rfl:d=0\/d=1\/d=2\/d=3\/d=4:=by omega
    all_goals rfl
   ·simp at hi⟩⟩ (λu8 hF=>?_)
  obtain⟨g8,y8,m8,s8⟩:=hF;have ⟨G8,Y8,M8,S8⟩:=zY g8 y8 m8 s8;clear g8 y8 m8 s8 b9 c8 a9 d6;go_wp2;refine wp_label ?_
  rename_i K hK
  refine hK _ _ ?_;refine xy (c':=mX8) (by simp only[mX8,qmy,qgH,sqB,inn]) ?_;refine qni (q8v λa u h=>h.1) (qe4 ps lim w u8 pb l.length pc f0 _ o _ _ ⟨_,Yb,M,0,f0,[zR l],[zR l],_,_,rfl,rfl,rfl,rfl,rfl,rfl,rfl,rfl,by omega,HM.out,M8.out,d8,S8.out,G8.out,Y8.out,HP.out.kept G8.out⟩ HOK.out a6 hf ?_);exact λz' w' b7 hR hg=>q41 b7 hR hg
 ·rintro a u hJ;refine wp_seq ?_;refine wp_skip ?_;refine xy (c':=mX8) (by simp only[mX8,qmy,qgH,sqB,inn]) ?_;refine qe4 ps lim w u pb l.length pc f0 _ o a _ hJ HOK.out a6 hf ?_;exact λz' w' b7 hR hg=>q41 b7 hR hg
end
end Go.Proofs.YtidgnkmjgioapaaGreat
