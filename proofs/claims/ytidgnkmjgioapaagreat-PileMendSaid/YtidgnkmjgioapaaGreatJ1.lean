/-
  Part 4 of the proof. PileMend answers true for every list and keeps it. No conditions.
-/
import Derived.Test.YtidgnkmjgioapaaGreatG2
import Derived.Test.YtidgnkmjgioapaaGreatL1
import Derived.RangeFuncBox
import Derived.DeepKeys
import Derived.RangeFuncNested
import Derived.RangeFuncBound
import Derived.RangeFuncCalls
import Derived.RangeFuncLeaves
import Derived.Shelf.Abstract
import Derived.WalkKit
import Derived.OwnWalkIn
import Derived.TacticsInMore
import Derived.LoopNIn
import Derived.LoopIn
import Derived.Laws.CopyOwn
import Derived.Laws.CopyRow
import Derived.Laws.IdiomCopy
import Derived.Recover
import Derived.Defers
import Derived.RangeFuncOwn
import Derived.WalkMore
set_option maxRecDepth 100000
set_option maxHeartbeats 8000000
set_option linter.all false
open And renaming intro->qhb
open Array renaming getElem?_append_left->qmm,getElem?_eq_some_iff->qgu,getElem?_setIfInBounds_ne->qi3,getElem?_setIfInBounds_self_of_lt->qjk,replicate_succ->qhr,replicate_zero->qhs
open Bool renaming and_eq_true->qh9,false_eq_true->qho,true_and->qm9
open Classical renaming byContradiction->qin,em->qq5
open Go renaming Addr->qi2,Calls->qhx,Code->qj9,FuncId->qi8,MapEntry->qki,Oper->qiu,Operand->qhF,Program->qgG,TypeId->qh5,Value->qgx,World->qgt,bodyPost_ret->qjD,callsIn_of_wp->qoo,callsIn_of_wp_marks->qnG,callsIn_wide->qjt,execOp->qk5,grownBy_putObj'->qko,grownCap->qkF,heap_alloc_new->qgC,info_parts->qjy,maxLen->qky,results->qk1,run_takeDeferred->qnl,undef->qgz,wpList_append_lies->qoc,yielded->qjn,zeroValue->qlv
open Go.Builtin renaming append_->qlf,copy_->qoi,zeroCells->qjd
open Go.Calls renaming quiet_of_same->qiG
open Go.Exit renaming inBlock->qlo
open Go.Instr renaming checkKey->qkB,findAsking->ql5,findKey->qlp,lookup->qmq,mapUpdate->qiz
open Go.IntWalk renaming i64_in->qhm
open Go.Lib renaming hid->qgr
open Go.Proofs.Tryz renaming f137->qph,f139->ql9,f54->qmx,ntmps157->qpx,ntmps84->qoF,ntmps98->qq9,results102->qqy,underlying29->qll
open Go.Region renaming binds->qhH,wanted->qhD
open Go.Result renaming andThen->qml,andThen_ok->qix
open Go.RowKit renaming intOf->qia
open Go.RowKit.Below renaming heap_setCell->qic,refl->qn0
open Go.Sem renaming run->qie,run_bind->qiw,run_pure->qnc
open Go.Value renaming int->qhe,oneCell'->qjh,ownBlock->qhp,slice->qhw
open Go.World renaming cell?->qhu,grownBy_alloc->qgs,news_of_block->qit,ownsRow_nil->qjg,putObj_heap_same->qlH,setCell->qja,size_alloc->qgF
open Go.World.grownBy renaming refl->qh6
open List renaming all_eq_true->qhE,append_assoc->qjp,append_toArray->qke,cons_append->qha,drop_eq_getElem_cons->qj7,drop_eq_nil_of_le->qkb,drop_succ_cons->qhA,drop_zero->qio,eq_nil_of_length_eq_zero->qhv,ext_getElem?->qlm,filter_append->qm0,find?_eq_none->qlG,flatMap_append->qpm,flatMap_cons->qjA,foldl_cons->qje,forall_mem_cons->qnA,forall_mem_nil->qnH,getElem?_append_left->qhh,getElem?_append_right->qid,getElem?_eq_getElem->qgB,getElem?_eq_some_iff->qh0,getElem?_map->qis,getElem?_of_mem->qnx,getElem?_set_ne->qjq,getElem?_set_self->qks,getElem?_take->qlF,getElem?_take_of_lt->qjc,length_append->qih,length_cons->qh1,length_filter_le->qji,length_map->qk0,length_nil->qh7,length_pos_iff->qkf,length_set->qlh,length_singleton->qng,length_take->qk3,map_append->qiH,map_cons->qjr,map_nil->qln,mem_append->qiF,mem_cons->qif,mem_filter->qm3,mem_flatMap->qnm,mem_map->qkn,mem_of_getElem?->qhc,mem_of_mem_take->qkE,mem_range->qj3,mem_singleton->qib,nil_append->qhn,not_mem_nil->qiD,push_toArray->qi1,range->qhl,range'->qnw,range_succ->qkG,replicate->qqB,size_toArray->qhk,takeWhile_cons_of_pos->qmn,take_add_one->qi7,take_length->qiy,take_sublist->qq8
open List.cons renaming injEq->qjG
open Nat renaming add_assoc->qmv,add_mul->qny,le_of_eq->qkl,le_of_lt->qqa,le_refl->qgw,le_trans->qgE,lt_of_lt_of_le->qh2,min_eq_left->qp1,reduceAdd->qhj,reduceSub->qir,zero_add->qhd,zero_le->qhz
open Option renaming getD_some->qgD
open Option.some renaming inj->qkk
open Prod renaming fst->ql2
namespace Go.Proofs.YtidgnkmjgioapaaGreat
section
open Go.RowKit Go.Co
def sqA:qj9->qj9 | .seq a _=>a | c=>c
def sqB:qj9->qj9 | .seq _ b=>b | c=>c
def inn:qj9->qj9 | .block _ c | .loop c | .scope c=>c | c=>c
noncomputable def jH:qj9:=inn (inn (inn (sqB (Tryz.f139.body.getD .skip))))
noncomputable def wR3:qj9:=sqA (sqB (sqB jH))
noncomputable def wR4:qj9:=sqA (sqB (sqB (sqB jH)))
noncomputable def wR9:qj9:=sqA (sqB (sqB (sqB (sqB jH))))
structure I3(t:Nat->qgx)(w0:qgt)(Y:Nat)(yv:qgx)(gm gx:Nat->Int)(l:Array Bool)(a:Act)(w:qgt):Prop where
 hg:w0.grownBy w none
 c6:l[6]?.getD false=true->l[0]?.getD false=true/\l[1]?.getD false=true/\l[3]?.getD false=true/\l[4]?.getD false=true/\l[5]?.getD false=true
 c7:l[7]?.getD false=true->l[6]?.getD false=true
 ac:∃T8 T9 x y z u,a=⟨#[t 0,t 1,t 2,t 3,.pointer (some ⟨Y,0,none⟩),t 5,t 6,t 7,T8,T9,t 10,t 11,t 12,t 13,t 14,t 15,t 16,t 17,t 18,t 19,t 20,x,y,z,u,t 25,t 26,t 27,t 28,t 29,t 30,t 31,t 32,t 33,t 34,t 35,t 36,t 37,t 38,t 39,t 40,t 41,t 42,t 43,t 44,t 45,t 46,t 47,t 48,t 49,t 50,t 51,t 52,t 53,t 54,t 55,t 56,t 57,t 58,t 59],[]⟩/\(l[0]?.getD false=true->x=yv)/\(l[1]?.getD false=true->y=wts gm)/\(l[2]?.getD false=true->z=yv)/\(l[3]?.getD false=true->u=wts gx) /\
  (l[4]?.getD false=true->∃B1,T8=.pointer (some ⟨B1,0,none⟩)/\w0.heap.size<=B1/\w.heap[B1]?=some (qG (if l[6]?.getD false then gm else λ_=>0))/\(l[5]?.getD false=true->T9≠T8)) /\
  (l[5]?.getD false=true->∃B2,T9=.pointer (some ⟨B2,0,none⟩)/\w0.heap.size<=B2/\w.heap[B2]?=some (qG (if l[7]?.getD false then gx else λ_=>0)))
theorem qey(lo hi:Nat)(t:Nat->qgx)(w:qgt)(R:Act->qgt->Prop)(ps:List Par)(lim:Int)(Y:Nat)(yb:Option qi2)(yc:Nat)(h4:t 4=.pointer (some ⟨Y,0,none⟩))(hP:qw lo hi w (.slice yb ps.length yc) ps)(hhi:hi<=w.heap.size)(h5:ps.length<=5)(e4:w.cell? ⟨Y,0,none⟩=some (.slice yb ps.length yc))(d9:w.cell? ⟨Y,1,none⟩=some (.int .i64 lim))(g5:Y<w.heap.size)(hR:∀B1 B2 w' x y z u,w.grownBy w' none->w'.heap[B1]?=some (qG (pre Par.mn ps ps.length))->w'.heap[B2]?=some (qG (pre Par.mx ps ps.length))->B1≠B2->w.heap.size<=B1->w.heap.size<=B2 ->R ⟨#[t 0,t 1,t 2,t 3,.pointer (some ⟨Y,0,none⟩),t 5,t 6,t 7,.pointer (some ⟨B1,0,none⟩),.pointer (some ⟨B2,0,none⟩),t 10,t 11,t 12,t 13,t 14,t 15,t 16,t 17,t 18,t 19,t 20,x,y,z,u,t 25,t 26,t 27,t 28,t 29,t 30,t 31,t 32,t 33,t 34,t 35,t 36,t 37,t 38,t 39,t 40,t 41,t 42,t 43,t 44,t 45,t 46,t 47,t 48,t 49,t 50,t 51,t 52,t 53,t 54,t 55,t 56,t 57,t 58,t 59],[]⟩ w') :wR3.wp Ya (yh R) ⟨#[t 0,t 1,t 2,t 3,t 4,t 5,t 6,t 7,t 8,t 9,t 10,t 11,t 12,t 13,t 14,t 15,t 16,t 17,t 18,t 19,t 20,t 21,t 22,t 23,t 24,t 25,t 26,t 27,t 28,t 29,t 30,t 31,t 32,t 33,t 34,t 35,t 36,t 37,t 38,t 39,t 40,t 41,t 42,t 43,t 44,t 45,t 46,t 47,t 48,t 49,t 50,t 51,t 52,t 53,t 54,t 55,t 56,t 57,t 58,t 59],[]⟩ w:=by
 have HR:=qgr hR;have HP:=qgr hP;have SC:=qgr (qhb e4 d9);clear hR hP e4 d9;rw[h4];clear h4;simp only[wR3,jH,ql9,qgD,sqA,sqB,inn];obtain⟨gm,c9⟩:∃gm,gm=pre Par.mn ps ps.length:=⟨_,rfl⟩;obtain⟨gx,c8⟩:∃gx,gx=pre Par.mx ps ps.length:=⟨_,rfl⟩;rw[<- c9,<- c8] at HR;have e7:=qgr c9;have e6:=qgr c8;clear c9 c8;refine Kq (by kernel_rfl) (I3 t w Y (.agg #[.slice yb ps.length yc,.int .i64 lim]) gm gx) ?_ ?_ ?_
 ·exact⟨qg _ _,by simp,by simp,t 8,t 9,t 21,t 22,t 23,t 24,rfl,by simp,by simp,by simp,by simp,by simp,by simp⟩
 ·intro l a w1 i hl hI hi;have c3:=(zx hi).1;have b6:l.size=8:=hl;have gs:∀i j,i<8->(l.setIfInBounds i true)[j]?.getD false=if i=j then true else l[j]?.getD false:=λi j h=>Qw l i j (by omega);have a7:=Zu hi;obtain⟨hg,c6,c7,T8,T9,x,y,z,u,rfl,k0,k1,k2,k3,k4,k5⟩:=hI;have HG:=qgr hg;have s0:=hg.cell SC.out.1 (by simp);have s1:=hg.cell SC.out.2 (by simp);have e5:=qgr (HP.out.kept hg (by simp));have hsz:=hg.size;clear hg;have c3:i=0\/i=1\/i=2\/i=3\/i=4\/i=5\/i=6\/i=7:=by
   have:i<8:=c3;omega
  rcases c3 with rfl | rfl | rfl | rfl | rfl | rfl | rfl | rfl
  ·refine zC rfl ?_;have KK:=qgr (qhb c6 (qhb c7 (qhb k1 (qhb k2 (qhb k3 (qhb k4 k5))))));have H6:=qgr a7;have b0:=qgr gs;clear k0 k1 k2 k3 k4 k5 c6 c7 hi a7 gs hl b6;go_wp2;obtain⟨c6,c7,k1,k2,k3,k4,k5⟩:=KK.out;have gs:=b0.out;have n6:l[6]?.getD false=false:=by
    cases h:l[6]?.getD false with
    | false=>rfl
    | true=>have:=(c6 h).1;rw[H6.out] at this;cases this
   have n7:l[7]?.getD false=false:=by
    cases h:l[7]?.getD false with
    | false=>rfl
    | true=>rw[c7 h] at n6;cases n6
   exact⟨HG.out,by simp[gs,n6],by simp[gs,n7],T8,T9,_,y,z,u,rfl,λ_=>rfl,by simpa[gs] using k1,by simpa[gs] using k2,by simpa[gs] using k3,by simpa[gs] using k4,by simpa[gs] using k5⟩
  ·have a6:=zw hi rfl;simp[qhH] at a6;have d0:l[0]?.getD false=true:=by(repeat(first | exact a6 | exact a6.1 | replace a6:=a6.2))
   obtain rfl:=k0 d0;clear a6;refine zC rfl ?_;have D0:=qgr d0;clear d0;have KK:=qgr (qhb c6 (qhb c7 (qhb k1 (qhb k2 (qhb k3 (qhb k4 k5))))));have H6:=qgr a7;have b0:=qgr gs;clear k0 k1 k2 k3 k4 k5 c6 c7 hi a7 gs hl b6;go_wp2_with (first | (go_at_call 93;refine(Qu lo hi _ ps lim _ ⟨_,rfl,e5.out⟩ (by omega) h5).mono ?_;rintro e w5 ⟨rfl,b8⟩;have b7:=qgr b8;clear b8));have gs:=b0.out;have n6:l[6]?.getD false=false:=by
    cases h:l[6]?.getD false with
    | false=>rfl
    | true=>have:=KK.out.1 h;simp[H6.out] at this
   have n7:l[7]?.getD false=false:=by
    cases h:l[7]?.getD false with
    | false=>rfl
    | true=>rw[KK.out.2.1 h] at n6;cases n6
   obtain⟨c6,c7,k1,k2,k3,k4,k5⟩:=KK.out;exact⟨HG.out.trans b7.out,by simp[gs,n6],by simp[gs,n7],T8,T9,_,_,z,u,rfl,λ_=>rfl,λ_=>by rw[e7.out],by simpa[gs] using k2,by simpa[gs] using k3,by intro h;obtain⟨B1,e,hb,hh,hn⟩:=k4 (by simpa[gs] using h);exact⟨B1,e,hb,by simpa[gs] using blk b7.out (by simp) hh,by simpa[gs] using hn⟩,by intro h;obtain⟨B2,e,hb,hh⟩:=k5 (by simpa[gs] using h);exact⟨B2,e,hb,by simpa[gs] using blk b7.out (by simp) hh⟩⟩
  ·refine zC rfl ?_;have KK:=qgr (qhb c6 (qhb c7 (qhb k0 (qhb k1 (qhb k2 (qhb k3 (qhb k4 k5)))))));have H6:=qgr a7;have b0:=qgr gs;clear k0 k1 k2 k3 k4 k5 c6 c7 hi a7 gs hl b6;go_wp2;have gs:=b0.out;obtain⟨c6,c7,k0,k1,k2,k3,k4,k5⟩:=KK.out;exact⟨HG.out,by simpa[gs] using c6,by simpa[gs] using c7,T8,T9,x,y,_,u,rfl,by simpa[gs] using k0,by simpa[gs] using k1,λ_=>rfl,by simpa[gs] using k3,by simpa[gs] using k4,by simpa[gs] using k5⟩
  ·have a6:=zw hi rfl;simp[qhH] at a6;have d2:l[2]?.getD false=true:=by(repeat(first | exact a6 | exact a6.1 | replace a6:=a6.2))
   obtain rfl:=k2 d2;clear a6;refine zC rfl ?_;have D2:=qgr d2;clear d2;have KK:=qgr (qhb c6 (qhb c7 (qhb k0 (qhb k1 (qhb k3 (qhb k4 k5))))));have H6:=qgr a7;have b0:=qgr gs;clear k0 k1 k2 k3 k4 k5 c6 c7 hi a7 gs hl b6;go_wp2_with (first | (go_at_call 92;refine(xZ lo hi _ ps lim _ ⟨_,rfl,e5.out⟩ (by omega) h5).mono ?_;rintro e w5 ⟨rfl,b8⟩;have b7:=qgr b8;clear b8));have gs:=b0.out;have n6:l[6]?.getD false=false:=by
    cases h:l[6]?.getD false with
    | false=>rfl
    | true=>have:=KK.out.1 h;simp[H6.out] at this
   have n7:l[7]?.getD false=false:=by
    cases h:l[7]?.getD false with
    | false=>rfl
    | true=>rw[KK.out.2.1 h] at n6;cases n6
   obtain⟨c6,c7,k0,k1,k3,k4,k5⟩:=KK.out;exact⟨HG.out.trans b7.out,by simp[gs,n6],by simp[gs,n7],T8,T9,x,y,_,_,rfl,by simpa[gs] using k0,by simpa[gs] using k1,λ_=>rfl,λ_=>by rw[e6.out],by intro h;obtain⟨B1,e,hb,hh,hn⟩:=k4 (by simpa[gs] using h);exact⟨B1,e,hb,by simpa[gs] using blk b7.out (by simp) hh,by simpa[gs] using hn⟩,by intro h;obtain⟨B2,e,hb,hh⟩:=k5 (by simpa[gs] using h);exact⟨B2,e,hb,by simpa[gs] using blk b7.out (by simp) hh⟩⟩
  ·refine zC rfl ?_;have KK:=qgr (qhb c6 (qhb c7 (qhb k0 (qhb k1 (qhb k2 (qhb k3 (qhb k4 k5)))))));have H6:=qgr a7;have b0:=qgr gs;clear k0 k1 k2 k3 k4 k5 c6 c7 hi a7 gs hl b6;go_wp2;have gs:=b0.out;have n6:l[6]?.getD false=false:=by
    cases h:l[6]?.getD false with
    | false=>rfl
    | true=>have:=KK.out.1 h;simp[H6.out] at this
   have n7:l[7]?.getD false=false:=by
    cases h:l[7]?.getD false with
    | false=>rfl
    | true=>rw[KK.out.2.1 h] at n6;cases n6
   obtain⟨c6,c7,k0,k1,k2,k3,k4,k5⟩:=KK.out;refine⟨HG.out.trans (qgs _ _ none),by simp[gs,n6],by simp[gs,n7],_,T9,x,y,z,u,rfl,by simpa[gs] using k0,by simpa[gs] using k1,by simpa[gs] using k2,by simpa[gs] using k3,λ_=>⟨w1.heap.size,rfl,hsz,?_,λh=>?_⟩,by intro h;obtain⟨B2,e,hb,hh⟩:=k5 (by simpa[gs] using h);exact⟨B2,e,hb,by simpa[gs] using qr hh⟩⟩
   ·rw[show(l.setIfInBounds 4 true)[6]?.getD false=false by simp[gs,n6]];exact qgC w1 (qG λ_=>0)
   ·obtain⟨B2,e2,_,hh⟩:=k5 (by simpa[gs] using h);have:=(qgu.1 hh).1;rw[e2];intro e;simp at e;try omega
  ·refine zC rfl ?_;have KK:=qgr (qhb c6 (qhb c7 (qhb k0 (qhb k1 (qhb k2 (qhb k3 (qhb k4 k5)))))));have H6:=qgr a7;have b0:=qgr gs;clear k0 k1 k2 k3 k4 k5 c6 c7 hi a7 gs hl b6;go_wp2;have gs:=b0.out;have n6:l[6]?.getD false=false:=by
    cases h:l[6]?.getD false with
    | false=>rfl
    | true=>have:=KK.out.1 h;simp[H6.out] at this
   have n7:l[7]?.getD false=false:=by
    cases h:l[7]?.getD false with
    | false=>rfl
    | true=>rw[KK.out.2.1 h] at n6;cases n6
   obtain⟨c6,c7,k0,k1,k2,k3,k4,k5⟩:=KK.out;refine⟨HG.out.trans (qgs _ _ none),by simp[gs,n6],by simp[gs,n7],T8,_,x,y,z,u,rfl,by simpa[gs] using k0,by simpa[gs] using k1,by simpa[gs] using k2,by simpa[gs] using k3,λh=>?_,λ_=>⟨w1.heap.size,rfl,hsz,?_⟩⟩
   ·obtain⟨B1,e,hb,hh,hn⟩:=k4 (by simpa[gs] using h);refine⟨B1,e,hb,by simpa[gs] using qr hh,λ_=>?_⟩;have:=(qgu.1 hh).1;rw[e];intro e;simp at e;try omega
   ·rw[show(l.setIfInBounds 5 true)[7]?.getD false=false by simp[gs,n7]];exact qgC w1 (qG λ_=>0)
  ·have a6:=zw hi rfl;simp[qhH] at a6;have d0:l[0]?.getD false=true:=by(repeat(first | exact a6 | exact a6.1 | replace a6:=a6.2))
   have d1:l[1]?.getD false=true:=by(repeat(first | exact a6 | exact a6.1 | replace a6:=a6.2))
   have d3:l[3]?.getD false=true:=by(repeat(first | exact a6 | exact a6.1 | replace a6:=a6.2))
   have d4:l[4]?.getD false=true:=by(repeat(first | exact a6 | exact a6.1 | replace a6:=a6.2))
   have d5:l[5]?.getD false=true:=by(repeat(first | exact a6 | exact a6.1 | replace a6:=a6.2))
   have D:=qgr (qhb d0 (qhb d1 (qhb d3 (qhb d4 d5))));obtain⟨B1,rfl,hb1,a9,hne⟩:=k4 d4;obtain⟨B2,rfl,b9,a8⟩:=k5 d5;obtain rfl:=k1 d1;obtain rfl:=k3 d3;obtain rfl:=k0 d0;have hne:B2≠B1:=λe=>hne d5 (by rw[e]);have n7:l[7]?.getD false=false:=by
    cases h:l[7]?.getD false with
    | false=>rfl
    | true=>rw[c7 h] at a7;cases a7
   rw[a7] at a9;rw[n7] at a8;have N7:=qgr n7;clear n7;simp only[qho,if_true,if_false,reduceIte] at a9 a8;have d8:=qgr a9;have d7:=qgr a8;have a0:=qn a9 (show 0<5 by omega);have a1:=qn a9 (show 1<5 by omega);have a2:=qn a9 (show 2<5 by omega);have a3:=qn a9 (show 3<5 by omega);have a4:=qn a9 (show 4<5 by omega);have fz:=jr a9;have e9:=(qgu.1 a9).1;refine zC rfl ?_;have H6:=qgr a7;have K2:=qgr k2;have b0:=qgr gs;clear a9 a8 a6 d0 d1 d3 d4 d5 k0 k1 k2 k3 k4 k5 c6 c7 hi a7 gs hl b6;unfold wts;go_wp2;have gs:=b0.out;have hW:(((((w1.setCell ⟨B1,0,none⟩ (.int .i64 (gm 0))).setCell ⟨B1,1,none⟩ (.int .i64 (gm 1))).setCell ⟨B1,2,none⟩ (.int .i64 (gm 2))).setCell ⟨B1,3,none⟩ (.int .i64 (gm 3))).setCell ⟨B1,4,none⟩ (.int .i64 (gm 4))).heap[B1]?=some (qG gm):=by
    rw[qj (qj (qj (qj (qj d8.out))))];rfl
   have hG:w1.grownBy (((((w1.setCell ⟨B1,0,none⟩ (.int .i64 (gm 0))).setCell ⟨B1,1,none⟩ (.int .i64 (gm 1))).setCell ⟨B1,2,none⟩ (.int .i64 (gm 2))).setCell ⟨B1,3,none⟩ (.int .i64 (gm 3))).setCell ⟨B1,4,none⟩ (.int .i64 (gm 4))) (some B1) :=
    ((((qh _ _ _ _).trans (qh _ _ _ _)).trans (qh _ _ _ _)).trans (qh _ _ _ _)).trans (qh _ _ _ _)
   refine⟨HG.out.andThen (row':=some B1) hG (by rintro j e;cases e;exact .inl (by omega)),?_,?_,_,_,_,_,_,_,rfl,λ_=>rfl,λ_=>rfl,?_,λ_=>rfl,λ_=>⟨B1,rfl,hb1,?_,λ_=>by intro e;simp at e;try omega⟩,λ_=>⟨B2,rfl,b9,?_⟩⟩
   ·intro _;obtain⟨d0,d1,d3,d4,d5⟩:=D.out;simp[gs,d0,d1,d3,d4,d5]
   ·intro h;rw[gs 6 7 (by omega)] at h;simp[N7.out] at h
   ·simpa[gs] using K2.out
   ·rw[show(l.setIfInBounds 6 true)[6]?.getD false=true by simp[gs]];exact hW
   ·rw[show(l.setIfInBounds 6 true)[7]?.getD false=false by simp[gs,N7.out]];exact blk hG (by simp;omega) d7.out
  ·have a6:=zw hi rfl;simp[qhH] at a6;have d0:l[0]?.getD false=true:=by(repeat(first | exact a6 | exact a6.1 | replace a6:=a6.2))
   have d1:l[1]?.getD false=true:=by(repeat(first | exact a6 | exact a6.1 | replace a6:=a6.2))
   have d3:l[3]?.getD false=true:=by(repeat(first | exact a6 | exact a6.1 | replace a6:=a6.2))
   have d4:l[4]?.getD false=true:=by(repeat(first | exact a6 | exact a6.1 | replace a6:=a6.2))
   have d5:l[5]?.getD false=true:=by(repeat(first | exact a6 | exact a6.1 | replace a6:=a6.2))
   have D:=qgr (qhb d0 (qhb d1 (qhb d3 (qhb d4 d5))));have d6:l[6]?.getD false=true:=by(repeat(first | exact a6 | exact a6.1 | replace a6:=a6.2))
   have D6:=qgr d6;obtain⟨B1,rfl,hb1,a9,hne⟩:=k4 d4;obtain⟨B2,rfl,b9,a8⟩:=k5 d5;obtain rfl:=k1 d1;obtain rfl:=k3 d3;obtain rfl:=k0 d0;have hne:B2≠B1:=λe=>hne d5 (by rw[e]);rw[d6] at a9;rw[a7] at a8;clear d6;simp only[qho,if_true,if_false,reduceIte] at a9 a8;have d8:=qgr a9;have d7:=qgr a8;have a0:=qn a8 (show 0<5 by omega);have a1:=qn a8 (show 1<5 by omega);have a2:=qn a8 (show 2<5 by omega);have a3:=qn a8 (show 3<5 by omega);have a4:=qn a8 (show 4<5 by omega);have fz:=jr a8;have e8:=(qgu.1 a8).1;refine zC rfl ?_;have H6:=qgr a7;have K2:=qgr k2;have b0:=qgr gs;clear a9 a8 a6 d0 d1 d3 d4 d5 k0 k1 k2 k3 k4 k5 c6 c7 hi a7 gs hl b6;unfold wts;go_wp2;have gs:=b0.out;have hW:(((((w1.setCell ⟨B2,0,none⟩ (.int .i64 (gx 0))).setCell ⟨B2,1,none⟩ (.int .i64 (gx 1))).setCell ⟨B2,2,none⟩ (.int .i64 (gx 2))).setCell ⟨B2,3,none⟩ (.int .i64 (gx 3))).setCell ⟨B2,4,none⟩ (.int .i64 (gx 4))).heap[B2]?=some (qG gx):=by
    rw[qj (qj (qj (qj (qj d7.out))))];rfl
   have hG:w1.grownBy (((((w1.setCell ⟨B2,0,none⟩ (.int .i64 (gx 0))).setCell ⟨B2,1,none⟩ (.int .i64 (gx 1))).setCell ⟨B2,2,none⟩ (.int .i64 (gx 2))).setCell ⟨B2,3,none⟩ (.int .i64 (gx 3))).setCell ⟨B2,4,none⟩ (.int .i64 (gx 4))) (some B2) :=
    ((((qh _ _ _ _).trans (qh _ _ _ _)).trans (qh _ _ _ _)).trans (qh _ _ _ _)).trans (qh _ _ _ _)
   refine⟨HG.out.andThen (row':=some B2) hG (by rintro j e;cases e;exact .inl (by omega)),?_,?_,_,_,_,_,_,_,rfl,λ_=>rfl,λ_=>rfl,?_,λ_=>rfl,λ_=>⟨B1,rfl,hb1,?_,λ_=>by intro e;simp at e;try omega⟩,λ_=>⟨B2,rfl,b9,?_⟩⟩
   ·intro _;obtain⟨d0,d1,d3,d4,d5⟩:=D.out;simp[gs,d0,d1,d3,d4,d5]
   ·intro _;simp[gs,D6.out]
   ·simpa[gs] using K2.out
   ·rw[show(l.setIfInBounds 7 true)[6]?.getD false=true by simp[gs,D6.out]];exact blk hG (by simp;omega) d8.out
   ·rw[show(l.setIfInBounds 7 true)[7]?.getD false=true by simp[gs]];exact hW
 ·intro l a w1 hl hI hr;obtain⟨hg,c6,c7,T8,T9,x,y,z,u,rfl,k0,k1,k2,k3,k4,k5⟩:=hI;have q0:=zX hr hl (i:=0) rfl (by simp[qhH]);have q1:=zX hr hl (i:=1) rfl (by simp[qhH,q0]);have q2:=zX hr hl (i:=2) rfl (by simp[qhH]);have q3:=zX hr hl (i:=3) rfl (by simp[qhH,q1,q2]);have q4:=zX hr hl (i:=4) rfl (by simp[qhH]);have q5:=zX hr hl (i:=5) rfl (by simp[qhH]);have q6:=zX hr hl (i:=6) rfl (by simp[qhH,q0,q1,q2,q3,q4,q5]);have q7:=zX hr hl (i:=7) rfl (by simp[qhH,q0,q1,q2,q3,q4,q5,q6]);obtain⟨B1,rfl,hb1,a9,hne⟩:=k4 q4;obtain⟨B2,rfl,b9,a8⟩:=k5 q5;rw[q6] at a9;rw[q7] at a8;exact HR.out B1 B2 w1 x y z u hg (by simpa using a9) (by simpa using a8) (λe=>hne q5 (by rw[e])) hb1 b9
end
section
open Go Go.RowKit Go.Co
noncomputable def cB0:qj9:=inn (inn (sqB (sqA (sqB (sqB (Tryz.f137.body.getD .skip))))))
noncomputable def cB1:qj9:=inn (sqA (sqB (sqB cB0)))
noncomputable def cL2:qj9:=sqB (sqA (sqB (sqB (sqB cB1))))
noncomputable def cB3:qj9:=inn (sqA (sqB (sqB (inn (inn cL2)))))
noncomputable def cIn:qj9:=sqB (sqB cB3)
def Yq(g:Nat->Int)(n:Nat)(v:Int):Nat->Int:=λd=>if d=n then v else g d
def Zp(g:Nat->Int):List qgx:=[.int .i64 (g 0),.int .i64 (g 1),.int .i64 (g 2),.int .i64 (g 3),.int .i64 (g 4)]
def j4(L:List (Nat->Int)):List qgx:=L.flatMap Zp
def kQ(g:Nat->Int)(n:Nat)(mn:Int)(k:Nat):List (Nat->Int):=(qhl k).map λm:Nat=>Yq g n (mn+(m:Int))
theorem q5q(g:Nat->Int)(n:Nat)(mn:Int)(k:Nat):kQ g n mn (k+1)=kQ g n mn k++[Yq g n (mn+k)]:=by
 simp[kQ,qkG]
theorem q84(g:Nat->Int)(n:Nat)(mn:Int)(k:Nat):(kQ g n mn k).length=k:=by simp[kQ]
theorem q5E(L:List (Nat->Int))(g:Nat->Int):j4 (L++[g])=j4 L++Zp g:=by simp[j4]
theorem qac(g:Nat->Int):zp (Zp g):=by
 intro v hv;simp only[Zp,qif,qiD,or_false] at hv;rcases hv with rfl | rfl | rfl | rfl | rfl<;>exact⟨_,_,rfl⟩
theorem Tp.und152:Ya.underlying 152=some (.slice 101):=by rw[Tp.und];exact Tryz.underlying152
theorem Tp.info101p:(Ya.info? 101).map (λi=>(i.zero,i.size,i.bytes))=some (some (.agg #[.int .i64 0,.int .i64 0,.int .i64 0,.int .i64 0,.int .i64 0]),5,40):=by kernel_rfl
theorem q7A(g:Nat->Int)(n:Nat)(a b:Int):(λd=>if d=n then b else Yq g n a d)=Yq g n b:=by
 funext d
 unfold Yq;split<;>rfl
def gAt(g:Nat->Int)(n:Nat)(mn:Int)(m:Nat):Nat->Int:=if m=0 then g else Yq g n (mn+(m - 1:Int))
theorem qda(g:Nat->Int)(n:Nat)(mn:Int)(m:Nat):(λd=>if d=n then mn+(m:Int) else gAt g n mn m d)=Yq g n (mn+m):=by
 unfold gAt;split
 ·rfl
 ·exact q7A _ _ _ _
theorem qb9(g:Nat->Int)(n:Nat)(mn:Int)(m:Nat):gAt g n mn (m+1)=Yq g n (mn+m):=by
 unfold gAt;simp
theorem qb4(t:Nat->qgx)(wm w:qgt)(R:Act->qgt->Prop)(n OB Wb k:Nat)(mn mx:Int)(g:Nat->Int)(L:List (Nat->Int))(nv:qgx)(h7:t 7=.int .i64 n)(hn:n<5)(h8:t 8=nv)(h9:t 9=.pointer (some ⟨OB,0,none⟩))(hO:wm.heap[OB]?=some (.cells #[.int .i64 mn,.int .i64 mx] 26 (0,0)))(c3:t 11=.pointer (some ⟨Wb,0,none⟩))(hW:w.heap[Wb]?=some (qG g))(l5:wm.heap.size<=Wb)(b9:t 39=.int .i64 k)(b8:t 40=.int .i64 0)(hg:wm.grownBy w none)(hown:w.ownsRow wm.heap.size 101 5 nv L.length (j4 L))(hI:∀b,nv.ownBlock=some b->zr w b/\b≠Wb)(m9:0<=mn/\mn<=1000)(hk:k<=2000)(hL:L.length+k<=900000)(hR:∀(x8 k5 k0 g9 g8 g7 g6 g5 e9 e8 e7 e6 e5 e4 d9 d8:qgx) w',wm.grownBy w' none->w'.ownsRow wm.heap.size 101 5 x8 (L.length+k) (j4 (L++kQ g n mn k))->(∀b,x8.ownBlock=some b->zr w' b) ->R ⟨#[t 0,t 1,t 2,t 3,t 4,t 5,t 6,.int .i64 n,x8,.pointer (some ⟨OB,0,none⟩),t 10,.pointer (some ⟨Wb,0,none⟩),k5,t 13,t 14,t 15,t 16,t 17,t 18,t 19,t 20,t 21,t 22,t 23,t 24,t 25,t 26,t 27,t 28,t 29,t 30,t 31,t 32,t 33,t 34,t 35,t 36,t 37,t 38,.int .i64 k,k0,g9,g8,g7,g6,g5,e9,e8,e7,e6,e5,e4,d9,d8,t 54,t 55,t 56,t 57],[]⟩ w') :(inn cIn).wp Ya (qlo 4 (yh R)) ⟨#[t 0,t 1,t 2,t 3,t 4,t 5,t 6,t 7,t 8,t 9,t 10,t 11,t 12,t 13,t 14,t 15,t 16,t 17,t 18,t 19,t 20,t 21,t 22,t 23,t 24,t 25,t 26,t 27,t 28,t 29,t 30,t 31,t 32,t 33,t 34,t 35,t 36,t 37,t 38,t 39,t 40,t 41,t 42,t 43,t 44,t 45,t 46,t 47,t 48,t 49,t 50,t 51,t 52,t 53,t 54,t 55,t 56,t 57],[]⟩ w:=by
 obtain⟨i0,l4,k8,k7,k6⟩:=qjy Tp.info101p;have HR:=qgr hR;have HO:=qgr hO;have HW:=qgr hW;have HG:=qgr hg;have HN:=qgr hown;have HI:=qgr hI;have n3:OB<wm.heap.size:=(qgu.1 hO).1;clear hR hO hW hg hown hI;rw[h7,h8,h9,c3,b9,b8];clear h7 h8 h9 c3 b9 b8;simp only[cIn,cB3,cL2,cB1,cB0,qph,qgD,sqA,sqB,inn];go_wp2;go_loopw [8,40] (λov iv wr=>∃m:Nat,iv=.int .i64 m/\m<=k/\wm.grownBy wr none/\wr.heap[Wb]?=some (qG (gAt g n mn m))/\wr.ownsRow wm.heap.size 101 5 ov (L.length+m) (j4 (L++kQ g n mn m))/\∀b,ov.ownBlock=some b->zr wr b/\b≠Wb) (λ_ iv _=>(k - qia iv).toNat)
 case atStart=>exact⟨0,rfl,by omega,HG.out,HW.out,by simpa[kQ] using HN.out,HI.out⟩
 case round=>
  obtain⟨m,rfl,hm,hG,hB,hO,hN⟩:=hrel;obtain⟨oa,om,oc,rfl⟩:=zK hO;have d6:=qgr hG;have l9:=qgr hB;have d5:=qgr hO;have b6:=qgr hN;have o0:=hG.cell (q9 HO.out (o:=0) rfl) (by simp);have n2:Wb<wr.heap.size:=(qgu.1 hB).1;by_cases hlt:m<k
  ·have d1:=qn hB hn;have f1:=jr hB;have m5:(m:Int)<(k:Int):=by omega
   have m7:(n:Int)<5:=by omega
   clear hG hB hO hN;have m4:IntKind.i64.wrap (mn+(m:Int))=mn+m:=qhm _ (by omega);go_upto_region 14 with(fail);obtain⟨w1,a6⟩:∃w1,w1=wr.setCell ⟨Wb,n,none⟩ (.int .i64 (mn+m)):=⟨_,rfl⟩;have q1:w1.heap[Wb]?=some (qG (Yq g n (mn+m))):=by
    rw[a6,<- qda];exact xU l9.out hn
   have g1:wr.grownBy w1 (some Wb):=by rw[a6];exact qh _ _ _ _
   have q2:wm.grownBy w1 none:=d6.out.andThen g1 (by rintro j e;cases e;exact .inl l5);have q3:w1.ownsRow wm.heap.size 101 5 (.slice oa om oc) (L.length+m) (j4 (L++kQ g n mn m)):=d5.out.kept g1 (.inr λe=>by
    have:=(b6.out _ e).2;exact this rfl)
   have q4:∀b,(qhw oa om oc).ownBlock=some b->zr w1 b/\b≠Wb:=λb hb=>by
    obtain⟨⟨cs,e,f,h1,h2⟩,h3⟩:=b6.out b hb;exact⟨⟨cs,e,f,blk g1 (by intro e;cases e;exact h3 rfl) h1,h2⟩,h3⟩
   have k9:w1.heap.size=wr.heap.size:=by rw[a6];simp
   have r0:=qn q1 (show 0<5 by omega);have r1:=qn q1 (show 1<5 by omega);have r2:=qn q1 (show 2<5 by omega);have r3:=qn q1 (show 3<5 by omega);have r4:=qn q1 (show 4<5 by omega);rw[<- a6];have c9:=qgr q1;have l6:=qgr q2;have c8:=qgr q3;have b0:=qgr q4;have m6:Wb<w1.heap.size:=by omega
   have m8:wm.heap.size<=w1.heap.size:=q2.size;clear q1 q2 q3 q4 g1 a6 d1 f1 o0 k9;generalize hgg:Yq g n (mn+(m:Int))=gg at r0 r1 r2 r3 r4 c9;go_wp2_with (first
    | (at_builtin;go_must (refine QP (by rfl) _ _ _ (by rfl) wm.heap.size 101 i0 _ 5 40 Tp.und152 l4 k8 k7 k6 rfl (by omega) (.slice oa om oc) (L.length+m) (j4 (L++kQ g n mn m)) (by rfl) (by exact c8.out.alloc _) ⟨w1.heap.size,0,none⟩ 1 1 (Zp gg) (by rfl) (by rfl) (qit (cs:=(Zp gg).toArray) (t:=101) (fr:=(0,0)) (qgC w1 _)) (by simp[Zp,qjh]) (by omega) (by unfold qky;omega) (by omega) (by simp;omega) (w1.heap.size+1) (by simp) (λb hb=>by obtain⟨⟨cs,e,f,h1,h2⟩,_⟩:=b0.out b hb;exact⟨cs,e,f,qr h1,h2⟩) (qac gg) (by intro v hv;simp[Value.cells] at hv;exact⟨_,_,hv⟩) ?_);intro gi cap w5 a7 a8 b7 hgl a9;have d7:=qgr a8;have l7:=qgr a7;have m3:=qgr b7;have l8:=qgr a9;clear a8 a7 b7 a9))
   refine⟨⟨m+1,by simp,by omega,?_,?_,?_,?_⟩,by simp[qia];omega⟩
   ·exact(l6.out.trans (qgs _ _ none)).andThen d7.out λj e=>.inl (c8.out.lt j e).1
   ·rw[qb9,hgg];exact blk d7.out (λe=>(b0.out Wb e.symm).2 rfl) (qr c9.out)
   ·rw[q5q,<- qjp,q5E,hgg];exact l7.out
   ·intro b hb;have hb':gi=b:=by simpa[qhp] using hb
    subst hb';refine⟨l8.out,?_⟩;rcases m3.out with e | e
    ·exact(b0.out gi e).2
    ·omega
  ·obtain rfl:m=k:=by omega
   clear hG hB hO hN;go_wp2;exact HR.out _ _ _ _ _ _ _ _ _ _ _ _ _ _ _ _ wr d6.out d5.out λb hb=>(b6.out b hb).1
theorem q6H(x:Array qgx)(h:x.size=58):∃y0 y1 y2 y3 y4 y5 y6 y7 y8 y9 y10 y11 y12 y13 y14 y15 y16 y17 y18 y19 y20 y21 y22 y23 y24 y25 y26 y27 y28 y29 y30 y31 y32 y33 y34 y35 y36 y37 y38 y39 y40 y41 y42 y43 y44 y45 y46 y47 y48 y49 y50 y51 y52 y53 y54 y55 y56 y57,x=#[y0,y1,y2,y3,y4,y5,y6,y7,y8,y9,y10,y11,y12,y13,y14,y15,y16,y17,y18,y19,y20,y21,y22,y23,y24,y25,y26,y27,y28,y29,y30,y31,y32,y33,y34,y35,y36,y37,y38,y39,y40,y41,y42,y43,y44,y45,y46,y47,y48,y49,y50,y51,y52,y53,y54,y55,y56,y57]:=by
 have e:=xr x;rw[h] at e;exact⟨_,_,_,_,_,_,_,_,_,_,_,_,_,_,_,_,_,_,_,_,_,_,_,_,_,_,_,_,_,_,_,_,_,_,_,_,_,_,_,_,_,_,_,_,_,_,_,_,_,_,_,_,_,_,_,_,_,_,e.trans rfl⟩
theorem qga(z:Array qgx)(h:z.size=58):z=#[z[0]?.getD qgz,z[1]?.getD qgz,z[2]?.getD qgz,z[3]?.getD qgz,z[4]?.getD qgz,z[5]?.getD qgz,z[6]?.getD qgz,z[7]?.getD qgz,z[8]?.getD qgz,z[9]?.getD qgz,z[10]?.getD qgz,z[11]?.getD qgz,z[12]?.getD qgz,z[13]?.getD qgz,z[14]?.getD qgz,z[15]?.getD qgz,z[16]?.getD qgz,z[17]?.getD qgz,z[18]?.getD qgz,z[19]?.getD qgz,z[20]?.getD qgz,z[21]?.getD qgz,z[22]?.getD qgz,z[23]?.getD qgz,z[24]?.getD qgz,z[25]?.getD qgz,z[26]?.getD qgz,z[27]?.getD qgz,z[28]?.getD qgz,z[29]?.getD qgz,z[30]?.getD qgz,z[31]?.getD qgz,z[32]?.getD qgz,z[33]?.getD qgz,z[34]?.getD qgz,z[35]?.getD qgz,z[36]?.getD qgz,z[37]?.getD qgz,z[38]?.getD qgz,z[39]?.getD qgz,z[40]?.getD qgz,z[41]?.getD qgz,z[42]?.getD qgz,z[43]?.getD qgz,z[44]?.getD qgz,z[45]?.getD qgz,z[46]?.getD qgz,z[47]?.getD qgz,z[48]?.getD qgz,z[49]?.getD qgz,z[50]?.getD qgz,z[51]?.getD qgz,z[52]?.getD qgz,z[53]?.getD qgz,z[54]?.getD qgz,z[55]?.getD qgz,z[56]?.getD qgz,z[57]?.getD qgz]:=by
 obtain⟨y0,y1,y2,y3,y4,y5,y6,y7,y8,y9,y10,y11,y12,y13,y14,y15,y16,y17,y18,y19,y20,y21,y22,y23,y24,y25,y26,y27,y28,y29,y30,y31,y32,y33,y34,y35,y36,y37,y38,y39,y40,y41,y42,y43,y44,y45,y46,y47,y48,y49,y50,y51,y52,y53,y54,y55,y56,y57,rfl⟩:=q6H z h;rfl
def jf:List Nat:=[8,12,40,41,42,43,44,45,46,47,48,49,50,51,52,53]
theorem qb3(z:Array qgx)(hz:z.size=58)(wm w:qgt)(R:Act->qgt->Prop)(n OB Wb k:Nat)(mn mx:Int)(g:Nat->Int)(L:List (Nat->Int))(nv:qgx)(h7:z[7]?=some (.int .i64 n))(hn:n<5)(h8:z[8]?=some nv)(h9:z[9]?=some (.pointer (some ⟨OB,0,none⟩)))(hO:wm.heap[OB]?=some (.cells #[.int .i64 mn,.int .i64 mx] 26 (0,0)))(b8:z[11]?=some (.pointer (some ⟨Wb,0,none⟩)))(hW:w.heap[Wb]?=some (qG g))(b0:wm.heap.size<=Wb)(b7:z[39]?=some (.int .i64 k))(b6:z[40]?=some (.int .i64 0))(hg:wm.grownBy w none)(hown:w.ownsRow wm.heap.size 101 5 nv L.length (j4 L))(hI:∀b,nv.ownBlock=some b->zr w b/\b≠Wb)(a9:0<=mn/\mn<=1000)(hk:k<=2000)(hL:L.length+k<=900000)(hR:∀(z':Array qgx) (x8:qgx) w',z'.size=58->z'[8]?=some x8->(∀j,j<58->j∉jf->z'[j]?=z[j]?)->wm.grownBy w' none->w'.ownsRow wm.heap.size 101 5 x8 (L.length+k) (j4 (L++kQ g n mn k))->(∀b,x8.ownBlock=some b->zr w' b)->R ⟨z',[]⟩ w') :(inn cIn).wp Ya (qlo 4 (yh R)) ⟨z,[]⟩ w:=by
 generalize ht:(λk:Nat=>z[k]?.getD qgz)=t;have a6:z=#[t 0,t 1,t 2,t 3,t 4,t 5,t 6,t 7,t 8,t 9,t 10,t 11,t 12,t 13,t 14,t 15,t 16,t 17,t 18,t 19,t 20,t 21,t 22,t 23,t 24,t 25,t 26,t 27,t 28,t 29,t 30,t 31,t 32,t 33,t 34,t 35,t 36,t 37,t 38,t 39,t 40,t 41,t 42,t 43,t 44,t 45,t 46,t 47,t 48,t 49,t 50,t 51,t 52,t 53,t 54,t 55,t 56,t 57]:=by subst ht;exact qga z hz
 have e7:t 7=.int .i64 n:=by subst ht;show z[7]?.getD qgz=_;rw[h7];rfl
 have e8:t 8=nv:=by subst ht;show z[8]?.getD qgz=_;rw[h8];rfl
 have e9:t 9=.pointer (some ⟨OB,0,none⟩):=by subst ht;show z[9]?.getD qgz=_;rw[h9];rfl
 have a8:t 11=.pointer (some ⟨Wb,0,none⟩):=by subst ht;show z[11]?.getD qgz=_;rw[b8];rfl
 have a7:t 39=.int .i64 k:=by subst ht;show z[39]?.getD qgz=_;rw[b7];rfl
 have b9:t 40=.int .i64 0:=by subst ht;show z[40]?.getD qgz=_;rw[b6];rfl
 rw[a6];refine qb4 t wm w R n OB Wb k mn mx g L nv e7 hn e8 e9 hO a8 hW b0 a7 b9 hg hown hI a9 hk hL ?_;intro x8 g8 g7 g6 g5 e6 e5 e4 d9 d8 d7 d6 d5 c9 c8 c3 w' a1 a2 a3;refine hR _ x8 w' rfl rfl (λj hj hn=>?_) a1 a2 a3;rw[a6,<- e7,<- e9,<- a8,<- a7];unfold jf at hn;obtain rfl | rfl | rfl | rfl | rfl | rfl | rfl | rfl | rfl | rfl | rfl | rfl | rfl | rfl | rfl | rfl | rfl | rfl | rfl | rfl | rfl | rfl | rfl | rfl | rfl | rfl | rfl | rfl | rfl | rfl | rfl | rfl | rfl | rfl | rfl | rfl | rfl | rfl | rfl | rfl | rfl | rfl | rfl | rfl | rfl | rfl | rfl | rfl | rfl | rfl | rfl | rfl | rfl | rfl | rfl | rfl | rfl | rfl:j=0\/j=1\/j=2\/j=3\/j=4\/j=5\/j=6\/j=7\/j=8\/j=9\/j=10\/j=11\/j=12\/j=13\/j=14\/j=15\/j=16\/j=17\/j=18\/j=19\/j=20\/j=21\/j=22\/j=23\/j=24\/j=25\/j=26\/j=27\/j=28\/j=29\/j=30\/j=31\/j=32\/j=33\/j=34\/j=35\/j=36\/j=37\/j=38\/j=39\/j=40\/j=41\/j=42\/j=43\/j=44\/j=45\/j=46\/j=47\/j=48\/j=49\/j=50\/j=51\/j=52\/j=53\/j=54\/j=55\/j=56\/j=57:=by omega
 all_goals first | rfl | (exact absurd (by simp) hn)
def yW(L:List (Nat->Int))(n:Nat)(mn:Int)(k:Nat):List (Nat->Int):=L.flatMap λg=>kQ g n mn k
theorem vw(L:List (Nat->Int))(n:Nat)(mn:Int)(k:Nat):(yW L n mn k).length=L.length*k:=by
 unfold yW;induction L with
 | nil=>simp
 | cons g L ih=>simp only[qjA,qih,q84,ih,qh1];rw[qny];omega
theorem q4F(L:List (Nat->Int))(n:Nat)(mn:Int)(k:Nat)(i:Nat)(g:Nat->Int)(h:L[i]?=some g):yW (L.take (i+1)) n mn k=yW (L.take i) n mn k++kQ g n mn k:=by
 rw[qi7,h];simp[yW]
theorem q0A(L:List (Nat->Int))(i:Nat)(g:Nat->Int)(h:L[i]?=some g)(d:Nat)(hd:d<5):(j4 L)[i*5+d]?=some (.int .i64 (g d)):=by
 unfold j4;induction L generalizing i with
 | nil=>simp at h
 | cons g0 L ih=>
  cases i with
  | zero=>
   simp at h;subst h;rw[qjA,qhh (by simp[Zp];omega)];obtain rfl | rfl | rfl | rfl | rfl:d=0\/d=1\/d=2\/d=3\/d=4:=by omega
   all_goals simp[Zp]
  | succ i=>
   simp at h;rw[qjA,qid (by simp[Zp];omega)];rw[show(i+1)*5+d - (Zp g0).length=i*5+d from by simp[Zp];omega];exact ih i h
theorem jZ{R:Act->qgt->Prop}{Q:Exit->Act->qgt->Prop}{id:Nat}(h:∀a w,R a w->Q .normal a w):∀e a w,qlo id (yh R) e a w->qlo id Q e a w:=by
 intro e a w hh;cases e with
 | normal=>exact h a w hh
 | exit i=>
  unfold qlo at hh ⊢;by_cases hi:i=id
  ·simp only[hi,if_true] at hh ⊢;exact h a w hh
  ·simp only[hi,if_false] at hh;exact hh.elim
 | goto l=>exact hh.elim
 | ret=>exact hh.elim
 | panic c=>exact hh.elim
 | outgrown=>exact hh.elim
theorem xu{c c':qj9}{P:qgG}{Q:Exit->Act->qgt->Prop}{a:Act}{w:qgt}(e:c=c')(h:c'.wp P Q a w):c.wp P Q a w:=e ▸ h
theorem qeC(z:Array qgx)(hz:z.size=58)(w:qgt)(R:Act->qgt->Prop)(n OB A oc base k:Nat)(mn mx:Int)(L:List (Nat->Int))(h7:z[7]?=some (.int .i64 n))(hn:n<5)(h8:z[8]?=some (.slice none 0 0))(h9:z[9]?=some (.pointer (some ⟨OB,0,none⟩)))(hO:w.heap[OB]?=some (.cells #[.int .i64 mn,.int .i64 mx] 26 (0,0)))(l7:z[28]?=some (.slice (some ⟨A,0,none⟩) L.length oc))(l6:z[29]?=some (.int .i64 L.length))(b0:z[30]?=some (.int .i64 0))(hown:w.ownsRow base 101 5 (.slice (some ⟨A,0,none⟩) L.length oc) L.length (j4 L))(m6:0<=mn/\mn<=mx/\mx<=1000)(hk:(k:Int)=mx - mn+1)(hL:L.length*k<=900000)(hR:∀(z':Array qgx) (x8:qgx) w',z'.size=58->z'[8]?=some x8->(∀j,j<58->j<8\/(8<j/\j<11)\/(12<j/\j<30)\/54<j->z'[j]?=z[j]?)->w.grownBy w' none->w'.ownsRow w.heap.size 101 5 x8 (L.length*k) (j4 (yW L n mn k))->(∀b,x8.ownBlock=some b->zr w' b)->R ⟨z',[]⟩ w') :(inn cL2).wp Ya (qlo 2 (yh R)) ⟨z,[]⟩ w:=by
 obtain⟨y0,y1,y2,y3,y4,y5,y6,y7,y8,y9,y10,y11,y12,y13,y14,y15,y16,y17,y18,y19,y20,y21,y22,y23,y24,y25,y26,y27,y28,y29,y30,y31,y32,y33,y34,y35,y36,y37,y38,y39,y40,y41,y42,y43,y44,y45,y46,y47,y48,y49,y50,y51,y52,y53,y54,y55,y56,y57,rfl⟩:=q6H z hz;simp at h7 h8 h9 l7 l6 b0;subst h7 h8 h9 l7 l6 b0;have HR:=qgr hR;have HO:=qgr hO;have HL:=qgr hown;have x6:OB<w.heap.size:=(qgu.1 hO).1;have x7:L.length<=900000:=qgE (Nat.le_mul_of_pos_right _ (by omega)) hL;clear hR hO hown hz;simp only[cL2,cB1,cB0,qph,qgD,sqA,sqB,inn];go_wp2;go_loopw [8,30] (λov iv wr=>∃i:Nat,iv=.int .i64 i/\i<=L.length/\w.grownBy wr none/\wr.ownsRow w.heap.size 101 5 ov (i*k) (j4 (yW (L.take i) n mn k))/\∀b,ov.ownBlock=some b->zr wr b) (λ_ iv _=>(L.length - qia iv).toNat)
 case atStart=>exact⟨0,rfl,by omega,qh6 _ _,by simpa[yW,j4] using qjg w w.heap.size 101 5,λb hb=>by simp[qhp] at hb⟩
 case round=>
  obtain⟨i,rfl,hi,hG,hO,hN⟩:=hrel;obtain⟨oa,om,a8,rfl⟩:=zK hO;have m5:=qgr hG;have b8:=qgr hO;have m4:=qgr hN;have hsz:=hG.size;by_cases hlt:i<L.length
  ·obtain⟨g,hg⟩:∃g,L[i]?=some g:=⟨_,qgB hlt⟩;have hA:=(HL.out.lt A rfl).2;have cA:∀d,d<5->wr.cell? ⟨A,i*5+d,none⟩=some (.int .i64 (g d)):=λd hd=>by
    have h1:=HL.out.cellAt (i*5+d) (by omega);rw[q0A L i g hg d hd] at h1;exact hG.cell h1 (by simp)
   have c0:wr.cell? ⟨A,i*5,none⟩=some (.int .i64 (g 0)):=cA 0 (by omega);have c1:=cA 1 (by omega);have c2:=cA 2 (by omega);have c3:=cA 3 (by omega);have c4:=cA 4 (by omega);have o0:=hG.cell (q9 HO.out (o:=0) rfl) (by simp);have o1:=hG.cell (q9 HO.out (o:=1) rfl) (by simp);have n9:(i:Int)<(L.length:Int):=by omega
   have x5:IntKind.i64.wrap (mx - mn)=mx - mn:=qhm _ (by omega);have x4:IntKind.i64.wrap (mx - mn+1)=mx - mn+1:=qhm _ (by omega);have n4:=qgr hg;clear hG hO hN cA hg;go_upto_region 10 with(fail);obtain⟨Wb,b7⟩:∃Wb,Wb=wr.heap.size:=⟨_,rfl⟩;obtain⟨w1,a7⟩:∃w1,w1=wr.alloc (qG g):=⟨_,rfl⟩;have q1:w1.heap[Wb]?=some (qG g):=by rw[a7,b7];exact qgC wr _
   have g1:wr.grownBy w1 none:=by rw[a7];exact qgs _ _ none
   have q2:w.grownBy w1 none:=m5.out.trans g1;have q3:w1.ownsRow w.heap.size 101 5 (.slice oa om a8) (i*k) (j4 (yW (L.take i) n mn k)):=by rw[a7];exact b8.out.alloc _
   have q4:∀b,(qhw oa om a8).ownBlock=some b->zr w1 b/\b≠Wb:=λb hb=>by
    obtain⟨cs,e,f,h1,h2⟩:=m4.out b hb;exact⟨⟨cs,e,f,by rw[a7];exact qr h1,h2⟩,by have:=(b8.out.lt b hb).2;omega⟩
   have p0:=g1.cell o0 (by simp);have p1:=g1.cell o1 (by simp);rw[<- b7];rw[show wr.alloc (.cells #[.int .i64 (g 0),.int .i64 (g 1),.int .i64 (g 2),.int .i64 (g 3),.int .i64 (g 4)] 101)=w1 from a7.symm];have n3:=qgr q1;have n2:=qgr q2;have m9:=qgr q3;have m8:=qgr q4;have m7:w.heap.size<=Wb:=by omega
   clear q1 q2 q3 q4 g1 a7 b7 c0 c1 c2 c3 c4 o0 o1;go_wp2;refine Code.wp_mono (jZ (R:=λa u=>∃(z':Array qgx) (x8:qgx),a=⟨z',[]⟩/\z'.size=58/\z'[8]?=some x8/\(∀j,j<58->j∉jf->z'[j]?=(#[y0,y1,y2,y3,y4,y5,y6,.int .i64 n,.slice oa om a8,.pointer (some ⟨OB,0,none⟩),y10,.pointer (some ⟨Wb,0,none⟩),qgz,y13,y14,y15,y16,y17,y18,y19,y20,y21,y22,y23,y24,y25,y26,y27,.slice (some ⟨A,0,none⟩) L.length oc,.int .i64 L.length,.int .i64 i]:Array qgx)[j]?\/30<j)/\(z'[55]?=some y55/\z'[56]?=some y56/\z'[57]?=some y57)/\w.grownBy u none/\u.ownsRow w.heap.size 101 5 x8 ((i+1)*k) (j4 (yW (L.take (i+1)) n mn k))/\∀b,x8.ownBlock=some b->zr u b) ?_) ?_;rotate_left
   ·refine xu (c':=inn cIn) (by simp only[cIn,cB3,cL2,cB1,cB0,qph,qgD,sqA,sqB,inn]) ?_;have a9:(yW (L.take i) n mn k).length=i*k:=by rw[vw,qk3,qp1 (by omega)]
    have hik:i*k+k<=900000:=by
     have h1:(i+1)*k<=L.length*k:=Nat.mul_le_mul_right _ hlt;rw[qny] at h1;omega
    refine qb3 _ rfl w w1 _ n OB Wb k mn mx g (yW (L.take i) n mn k) (.slice oa om a8) rfl hn rfl rfl HO.out rfl n3.out m7 (by rw[hk];rfl) rfl n2.out (by rw[a9];exact m9.out) m8.out ⟨m6.1,by omega⟩ (by omega) (by rw[a9];exact hik) ?_;intro z' x8 w' b1 b2 b3 b4 b5 b6;refine⟨z',x8,rfl,b1,b2,λj hj hn=>?_,⟨(b3 55 (by omega) (by simp[jf])).trans rfl,(b3 56 (by omega) (by simp[jf])).trans rfl,(b3 57 (by omega) (by simp[jf])).trans rfl⟩,b4,?_,b6⟩
    ·by_cases b0:30<j
     ·exact .inr b0
     ·left;rw[b3 j hj hn];have z0:j≠12:=λe=>hn (by subst e;simp[jf]);obtain rfl | rfl | rfl | rfl | rfl | rfl | rfl | rfl | rfl | rfl | rfl | rfl | rfl | rfl | rfl | rfl | rfl | rfl | rfl | rfl | rfl | rfl | rfl | rfl | rfl | rfl | rfl | rfl | rfl | rfl:j=0\/j=1\/j=2\/j=3\/j=4\/j=5\/j=6\/j=7\/j=8\/j=9\/j=10\/j=11\/j=13\/j=14\/j=15\/j=16\/j=17\/j=18\/j=19\/j=20\/j=21\/j=22\/j=23\/j=24\/j=25\/j=26\/j=27\/j=28\/j=29\/j=30:=by omega
      all_goals rfl
    ·rw[a9] at b5;rw[q4F L n mn k i g n4.out,qny,Nat.one_mul];exact b5
   ·rintro a u ⟨z',x8,rfl,l5,e8,a6,⟨m3,l9,l8⟩,f1,f2,f3⟩;obtain⟨v0,v1,v2,v3,v4,v5,v6,v7,v8,v9,x2,x1,x0,w9,w8,w6,u9,u8,u7,u6,u5,u0,t9,t8,t7,t6,t5,t4,t3,t2,t1,s9,s8,s7,s6,s5,s4,s3,s2,s1,r9,r8,r7,r6,r5,r4,r3,q7,q6,q5,q0,p9,p8,p7,p6,p5,p4,p3,rfl⟩:=q6H z' l5;simp at e8 m3 l9 l8;subst e8 m3 l9 l8;have k0:=(a6 0 (by omega) (by simp[jf])).resolve_right (by omega);have k1:=(a6 1 (by omega) (by simp[jf])).resolve_right (by omega);have k2:=(a6 2 (by omega) (by simp[jf])).resolve_right (by omega);have k3:=(a6 3 (by omega) (by simp[jf])).resolve_right (by omega);have k4:=(a6 4 (by omega) (by simp[jf])).resolve_right (by omega);have k5:=(a6 5 (by omega) (by simp[jf])).resolve_right (by omega);have k6:=(a6 6 (by omega) (by simp[jf])).resolve_right (by omega);have k7:=(a6 7 (by omega) (by simp[jf])).resolve_right (by omega);have k9:=(a6 9 (by omega) (by simp[jf])).resolve_right (by omega);have l4:=(a6 10 (by omega) (by simp[jf])).resolve_right (by omega);have k8:=(a6 11 (by omega) (by simp[jf])).resolve_right (by omega);have g9:=(a6 13 (by omega) (by simp[jf])).resolve_right (by omega);have g8:=(a6 14 (by omega) (by simp[jf])).resolve_right (by omega);have g7:=(a6 15 (by omega) (by simp[jf])).resolve_right (by omega);have g6:=(a6 16 (by omega) (by simp[jf])).resolve_right (by omega);have g5:=(a6 17 (by omega) (by simp[jf])).resolve_right (by omega);have e9:=(a6 18 (by omega) (by simp[jf])).resolve_right (by omega);have e7:=(a6 19 (by omega) (by simp[jf])).resolve_right (by omega);have e6:=(a6 20 (by omega) (by simp[jf])).resolve_right (by omega);have e5:=(a6 21 (by omega) (by simp[jf])).resolve_right (by omega);have e4:=(a6 22 (by omega) (by simp[jf])).resolve_right (by omega);have d9:=(a6 23 (by omega) (by simp[jf])).resolve_right (by omega);have d8:=(a6 24 (by omega) (by simp[jf])).resolve_right (by omega);have d7:=(a6 25 (by omega) (by simp[jf])).resolve_right (by omega);have d6:=(a6 26 (by omega) (by simp[jf])).resolve_right (by omega);have d5:=(a6 27 (by omega) (by simp[jf])).resolve_right (by omega);have c9:=(a6 28 (by omega) (by simp[jf])).resolve_right (by omega);have c8:=(a6 29 (by omega) (by simp[jf])).resolve_right (by omega);have b9:=(a6 30 (by omega) (by simp[jf])).resolve_right (by omega);clear a6 l5;simp at k0 k1 k2 k3 k4 k5 k6 k7 k9 l4 k8 g9 g8 g7 g6 g5 e9 e7 e6 e5 e4 d9 d8 d7 d6 d5 c9 c8 b9;subst k0 k1 k2 k3 k4 k5 k6 k7 k9 l4 k8 g9 g8 g7 g6 g5 e9 e7 e6 e5 e4 d9 d8 d7 d6 d5 c9 c8 b9;have n8:=qgr f1;have n7:=qgr f2;have n6:=qgr f3;clear f1 f2 f3 p0 p1;have x3:IntKind.i64.wrap ((i:Int)+1)=i+1:=qhm _ (by omega);dsimp only;go_wp2;go_roundw
    case rel=>exact⟨i+1,by simp,by omega,n8.out,n7.out,n6.out⟩
    case measure=>simp[qia];omega
  ·obtain rfl:i=L.length:=by omega
   clear hG hO hN;go_wp2;refine HR.out _ (.slice oa om a8) wr rfl rfl (λj hj hc=>?_) m5.out ?_ m4.out
   ·obtain rfl | rfl | rfl | rfl | rfl | rfl | rfl | rfl | rfl | rfl | rfl | rfl | rfl | rfl | rfl | rfl | rfl | rfl | rfl | rfl | rfl | rfl | rfl | rfl | rfl | rfl | rfl | rfl | rfl | rfl:j=0\/j=1\/j=2\/j=3\/j=4\/j=5\/j=6\/j=7\/j=9\/j=10\/j=13\/j=14\/j=15\/j=16\/j=17\/j=18\/j=19\/j=20\/j=21\/j=22\/j=23\/j=24\/j=25\/j=26\/j=27\/j=28\/j=29\/j=55\/j=56\/j=57:=by omega
    all_goals rfl
   ·have h1:=b8.out;rw[qiy] at h1;exact h1
def kOf(p:Par):Nat:=(p.mx - p.mn+1).toNat
def kS(ps:List Par)(L:List (Nat->Int))(x:Int):List (Nat->Int):=match ps[x.toNat]? with | some p=>yW L x.toNat p.mn (kOf p) | none=>L
def yN(ps:List Par)(wl:List Int):List (Nat->Int):=wl.foldl (kS ps) [λ_=>0]
theorem q8y(ps:List Par)(wl:List Int)(i:Nat)(x:Int)(p:Par)(h:wl[i]?=some x)(hp:ps[x.toNat]?=some p):yN ps (wl.take (i+1))=yW (yN ps (wl.take i)) x.toNat p.mn (kOf p):=by
 rw[qi7,h];simp[yN,List.foldl_append,kS,hp]
theorem q8x(lo hi:Nat)(yv vv:qgx)(ps:List Par)(lim:Int)(wl:List Int)(w:qgt)(hY:jo lo hi w yv ps lim)(hI:qe lo hi w vv wl)(hhi:hi<=w.heap.size)(h5:ps.length<=5)(hx:∀x∈wl,0<=x/\x<ps.length)(hp:∀p∈ps,0<=p.mn/\p.mn<=p.mx/\p.mx<=1000)(hN:∀j,j<=wl.length->(yN ps (wl.take j)).length<=900000) :qhx Ya 137 #[yv,vv] w λe w'=>∃v,e=.returned v/\w.grownBy w' none/\w'.ownsRow w.heap.size 101 5 v (yN ps wl).length (j4 (yN ps wl))/\∀b,v.ownBlock=some b->zr w' b:=by
 obtain⟨qv,rfl,hP⟩:=hY;obtain⟨yb,yc,rfl,x7,-⟩:=hP.cell;obtain⟨base,cap,rfl,z4,-⟩:=hI.cell;obtain⟨A,hA⟩:∃A,A=w.heap.size:=⟨_,rfl⟩;obtain⟨w1,a6⟩:∃w1,w1=(w.alloc (.cells #[.slice yb ps.length yc,.int .i64 lim] 91)).alloc (qG λ_=>0):=⟨_,rfl⟩;have b7:w.grownBy w1 none:=by rw[a6];exact(qgs _ _ none).trans (qgs _ _ none)
 have e5:w1.heap[A]?=some (.cells #[.slice yb ps.length yc,.int .i64 lim] 91 (0,0)):=by rw[a6,hA];exact qr (qgC w _)
 have z2:w1.heap.size=A+2:=by rw[a6,qgF,qgF,hA]
 have d5:w1.heap[A+1]?=some (qG λ_=>0):=by
  rw[a6];have:=qgC (w.alloc (.cells #[.slice yb ps.length yc,.int .i64 lim] 91)) (qG λ_=>0);rw[qgF,<- hA] at this;exact this
 have d8:w1.ownsRow A 101 5 (.slice (some ⟨A+1,0,none⟩) 1 1) 1 (j4 [λ_=>0]):=⟨by simp[j4,Zp],.inr ⟨A+1,1,_,rfl,by omega,d5,by omega,by unfold qky;omega,by simp,by simp[j4,Zp]⟩⟩;have d9:zr w1 (A+1):=ZD d5 (by intro v hv;simp at hv;exact⟨_,_,hv⟩);have n2:=qgr (hI.kept b7 (by simp));have m6:=qgr (hP.kept b7 (by simp));have HX:=qgr hx;have m5:=qgr hp;have HN:=qgr hN;have h8:=qgr a6;have HA:=qgr hA;have n3:=qgr b7;have n8:=qgr e5;have m7:=qgr d8;have m9:=qgr d9;have z5:hi<=A:=by omega
 clear hI hP hx hp hN a6 hA b7 e5 d5 d8 d9;go_enter Tp.x137,Tryz.ntmps137;go_upto_region 2 with(fail);rw[<- HA.out];rw[show(w.alloc (.cells #[.slice yb ps.length yc,.int .i64 lim] 91)).alloc (.cells #[.int .i64 0,.int .i64 0,.int .i64 0,.int .i64 0,.int .i64 0] 101)=w1 from h8.out.symm];clear h8;go_wp2;go_loopw [5,17] (λov iv wr=>∃j:Nat,iv=.int .i64 j/\j<=wl.length/\w1.grownBy wr none/\wr.ownsRow A 101 5 ov (yN ps (wl.take j)).length (j4 (yN ps (wl.take j)))/\(∀b,ov.ownBlock=some b->zr wr b)/\0<(yN ps (wl.take j)).length) (λ_ iv _=>(wl.length - qia iv).toNat)
 case atStart=>exact⟨0,rfl,by omega,qh6 _ _,by simpa[yN] using m7.out,λb hb=>(by simp[qhp] at hb;subst hb;exact m9.out),by simp[yN]⟩
 case round=>
  obtain⟨j,rfl,hj,hG,hO,hN,a8⟩:=hrel;obtain⟨RA,rc,rfl,z9,p3⟩:=hO.form a8;have k6:=qgr hG;have k0:=qgr hO;have m8:=qgr hN;have hsz:=hG.size;by_cases hlt:j<wl.length
  ·have k5:=n2.out.kept hG (by simp);have h9:=m6.out.kept hG (by simp);obtain⟨b1,c1,he,-,hc⟩:=k5.cell;cases he;obtain⟨VB,vo,rfl,p6,p5,p4,b8⟩:=hc (by intro e;rw[e] at hlt;simp at hlt);have x0:=b8 j hlt;obtain⟨x,a9⟩:∃x,wl[j]?=some x:=⟨_,qgB hlt⟩;obtain⟨z0,b9⟩:=HX.out x (qhc a9);rw[a9] at x0;simp only[qgD] at x0;obtain⟨n,rfl⟩:∃n:Nat,x=n:=⟨x.toNat,by omega⟩;obtain⟨b2,c2,he,-,hc⟩:=h9.cell;cases he;obtain⟨YB,yo,rfl,z8,z7,z6,d7⟩:=hc (by intro e;rw[e] at b9;simp at b9;omega);obtain⟨p,c3,p0,p1,-,-⟩:=d7 n (by omega);have c9:=m5.out p (qhc c3);have a0:=hG.cell (q9 n8.out (o:=0) rfl) (by simp);have n9:(j:Int)<(wl.length:Int):=by omega
   have z3:(n:Int)<(ps.length:Int):=b9;have l7:=qgr a9;have m4:=qgr c3;clear hG hO hN hc b8 d7 a9 c3 k5 h9;go_upto_region 7 with(fail);obtain⟨L,b0⟩:∃L,L=yN ps (wl.take j):=⟨_,rfl⟩;obtain⟨OB,d6⟩:∃OB,OB=wr.heap.size:=⟨_,rfl⟩;obtain⟨w2,a7⟩:∃w2,w2=wr.alloc (.cells #[.int .i64 p.mn,.int .i64 p.mx] 26):=⟨_,rfl⟩;have l4:n<5:=by omega
   have l5:((kOf p:Nat):Int)=p.mx - p.mn+1:=by unfold kOf;omega
   have hcl:yN ps (wl.take (j+1))=yW L n p.mn (kOf p):=by rw[q8y ps wl j n p l7.out (by simpa using m4.out),<- b0];simp
   have l6:L.length*kOf p<=900000:=by have:=HN.out (j+1) hlt;rw[hcl,vw] at this;exact this
   have q1:w2.heap[OB]?=some (.cells #[.int .i64 p.mn,.int .i64 p.mx] 26 (0,0)):=by rw[a7,d6];exact qgC wr _
   have q2:wr.grownBy w2 none:=by rw[a7];exact qgs _ _ none
   have q3:w2.ownsRow A 101 5 (.slice (some ⟨RA,0,none⟩) L.length rc) L.length (j4 L):=by rw[a7,b0];exact k0.out.alloc _
   have k9:A<=w2.heap.size:=by have:=q2.size;omega
   rw[<- b0] at a8 ⊢;rw[<- d6];rw[show wr.alloc (.cells #[.int .i64 p.mn,.int .i64 p.mx] 26)=w2 from a7.symm];have m3:=qgr q1;have l9:=qgr q2;have l8:=qgr q3;have k7:=qgr hcl;clear q1 q2 q3 hcl a7 d6 b0 x0 p0 p1 a0;go_wp2;refine Code.wp_mono (jZ (R:=λa u=>∃(z':Array qgx) (x8:qgx),a=⟨z',[]⟩/\z'.size=58/\z'[8]?=some x8/\(z'[0]?=some (.agg #[.slice (some ⟨YB,yo,none⟩) ps.length yc,.int .i64 lim])/\z'[1]?=some (.slice (some ⟨VB,vo,none⟩) wl.length cap)/\z'[2]?=some (.pointer (some ⟨A,0,none⟩))/\z'[3]?=some (qgz)/\z'[4]?=some (.slice none 0 0)/\z'[6]?=some (qgz)/\z'[10]?=some (qgz)/\z'[13]?=some (.agg #[.int .i64 0,.int .i64 0,.int .i64 0,.int .i64 0,.int .i64 0])/\z'[14]?=some (.slice (some ⟨A+1,0,none⟩) 1 1)/\z'[15]?=some (.slice (some ⟨VB,vo,none⟩) wl.length cap)/\z'[16]?=some (.int .i64 wl.length)/\z'[17]?=some (.int .i64 j)/\z'[57]?=some (qgz))/\w1.grownBy u none/\u.ownsRow A 101 5 x8 (yN ps (wl.take (j+1))).length (j4 (yN ps (wl.take (j+1))))/\∀b,x8.ownBlock=some b->zr u b) ?_) ?_;rotate_left
   ·refine xu (c':=inn cL2) (by simp only[cL2,cB1,cB0,qph,qgD,sqA,sqB,inn]) ?_;refine qeC _ rfl w2 _ n OB RA rc A (kOf p) p.mn p.mx L rfl l4 rfl rfl m3.out rfl rfl rfl l8.out ⟨c9.1,c9.2.1,c9.2.2⟩ l5 l6 ?_;intro z' x8 w' b1 b2 b3 b4 b5 b6;refine⟨z',x8,rfl,b1,b2,⟨(b3 0 (by omega) (by omega)).trans rfl,(b3 1 (by omega) (by omega)).trans rfl,(b3 2 (by omega) (by omega)).trans rfl,(b3 3 (by omega) (by omega)).trans rfl,(b3 4 (by omega) (by omega)).trans rfl,(b3 6 (by omega) (by omega)).trans rfl,(b3 10 (by omega) (by omega)).trans rfl,(b3 13 (by omega) (by omega)).trans rfl,(b3 14 (by omega) (by omega)).trans rfl,(b3 15 (by omega) (by omega)).trans rfl,(b3 16 (by omega) (by omega)).trans rfl,(b3 17 (by omega) (by omega)).trans rfl,(b3 57 (by omega) (by omega)).trans rfl⟩,(k6.out.trans l9.out).trans b4,?_,b6⟩;rw[k7.out,vw];exact q3e b5 k9
   ·rintro a u ⟨z',x8,rfl,k8,e8,⟨e0,e1,e2,e3,e4,e6,g9,g8,g7,g6,g5,e9,e7⟩,f1,f2,f3⟩;have c8:0<(yN ps (wl.take (j+1))).length:=by
     rw[k7.out,vw];exact Nat.mul_pos a8 (by omega)
    obtain⟨v0,v1,v2,v3,v4,v5,v6,v7,v8,v9,x6,x5,x4,x3,x2,x1,w9,w8,w6,u9,u8,u7,u6,u5,u0,t9,t8,t7,t6,t5,t4,t3,t2,t1,s9,s8,s7,s6,s5,s4,s3,s2,s1,r9,r8,r7,r6,r5,r4,r3,q7,q6,q5,q4,q0,p9,p8,p7,rfl⟩:=q6H z' k8;simp at e8 e0 e1 e2 e3 e4 e6 g9 g8 g7 g6 g5 e9 e7;subst e8 e0 e1 e2 e3 e4 e6 g9 g8 g7 g6 g5 e9 e7;have n7:=qgr f1;have n6:=qgr f2;have n4:=qgr f3;clear f1 f2 f3;have z1:IntKind.i64.wrap ((j:Int)+1)=j+1:=qhm _ (by omega);dsimp only;go_wp2;go_roundw
    case rel=>exact⟨j+1,by simp,by omega,n7.out,n6.out,n4.out,c8⟩
    case measure=>simp[qia];omega
  ·obtain rfl:j=wl.length:=by omega
   clear hG hO hN;go_wp2;go_ret;refine⟨_,rfl,n3.out.trans k6.out,?_,m8.out⟩;have h1:=k0.out;rw[<- HA.out];simpa[qiy] using h1
end
section
open Go Go.RowKit Go.Co
theorem Tp.info3p:(Ya.info? 3).map (λi=>(i.zero,i.size,i.bytes))=some (some (.int .i64 0),1,8):=by kernel_rfl
theorem Tp.und29':Ya.underlying 29=some (.slice 3):=by rw[Tp.und];exact qll
theorem YS{w:qgt}{base n hi:Nat}{v:qgx}{l:List Int}(h:w.ownsRow base 3 1 v n (l.map (qhe .i64)))(hl:l.length<=1000000)(hhi:w.heap.size<=hi):qe base hi w v l:=by
 have hn:n=l.length:=by have:=h.1;simpa using this.symm
 subst hn;rcases h.2 with⟨rfl,h0⟩ | ⟨g,cap,cur,rfl,hb,hg,_,_,hcs,ht⟩
 ·have:l=[]:=qhv h0;subst this;exact .nil _ _ _
 ·have hlt:=(qgu.1 hg).1;refine⟨_,cap,rfl,by omega,λ_=>⟨g,0,cur,_,rfl,hb,by omega,hg,λi hi=>?_⟩⟩;have h1:(l.map (qhe .i64))[i]?=some (.int .i64 (l[i]?.getD 0)):=by simp[qgB hi]
  rw[<- ht,qlF] at h1;split at h1
  ·rw[qhd];simpa using h1
  ·cases h1
theorem kH{w:qgt}{B o j:Nat}{u:qgx}(h:w.cell? ⟨B,o+j,none⟩=some u):w.cell? ((⟨B,o,none⟩:qi2).add j)=some u:=by
 have e:(⟨B,o,none⟩:qi2).add j=⟨B,o+j,none⟩:=by unfold Addr.add;split<;>simp_all
 rw[e];exact h
theorem q62(w:qgt):(binOp .eql 29 (.slice none 0 0) (.slice none 0 0)).run Ya w=.ok (.bool true) w:=by kernel_rfl
theorem q1E(w:qgt)(B o n c:Nat):(binOp .eql 29 (.slice (some ⟨B,o,none⟩) n c) (.slice none 0 0)).run Ya w=.ok (.bool false) w:=by kernel_rfl
attribute [local simp] q62 q1E
attribute [local go_sem] q62 q1E
theorem J9(lo hi:Nat)(v:qgx)(l:List Int)(w:qgt)(hI:qe lo hi w v l)(hhi:hi<=w.heap.size)(hne:l≠[]\/v=.slice none 0 0)(hl:l.length<=1000) :qhx Ya 84 #[v] w λe w'=>∃v',e=.returned v'/\w.grownBy w' none/\qe w.heap.size w'.heap.size w' v' l:=by
 obtain⟨i0,b8,b6,b0,a9⟩:=qjy Tp.info3p;by_cases h0:l=[]
 ·subst h0;have hv:v=.slice none 0 0:=hne.resolve_left (λh=>h rfl);subst hv;go_enter Tp.x84,qoF;go_wp2;go_ret;exact⟨_,rfl,qh6 _ _,.nil _ _ _⟩
 ·obtain⟨base,cap,rfl,c3,hc⟩:=hI;obtain⟨B,o,cs,fr,rfl,h1,h2,h3,h4⟩:=hc h0;have a8:0<l.length:=qkf.2 h0;have HN:=qgr (show ∀j u,(l.map (qhe .i64))[j]?=some u->cs[o+j]?=some u from λj u hu=>by
   rw[qis] at hu;cases hj:l[j]? with
   | none=>rw[hj] at hu;cases hu
   | some x=>
    rw[hj] at hu;cases hu;have b7:=(qh0.1 hj).1;have:=h4 j b7;rw[hj] at this;exact this)
  have HB:=qgr h3;clear hc h4 h3;go_enter Tp.x84,qoF;go_wp2_with (first
   | (at_builtin;go_must (refine qoc _ (by rfl) _ _ _ (by rfl) w.heap.size 3 i0 _ 1 8 Tp.und29' b8 b6 b0 a9 rfl (by omega) (.slice (some ⟨w.heap.size,0,none⟩) 0 0) 0 [] (by rfl) ⟨by simp,.inr ⟨w.heap.size,0,#[],rfl,by omega,qgC w _,by omega,by unfold qky;omega,by simp,by simp⟩⟩ ⟨B,o,none⟩ l.length cap (l.map (qhe .i64)) (by rfl) (by simp) (λj u hu=>kH (q9 (qr HB.out) (HN.out j u hu))) (by intro u hu;simp at hu;obtain⟨x,_,rfl⟩:=hu;rfl) a8 (by unfold qky;omega) (by omega) (by simp) (w.heap.size+1) (by simp) ?_);intro gg b9 w5 a6 a7 c8 hgl;have HG:=qgr a7;have HO:=qgr a6;clear a7 a6))
  go_ret;refine⟨_,rfl,(qgs _ _ none).andThen HG.out (λj e=>.inl ?_),YS (n:=0+l.length) (by simpa using HO.out) (by omega) (qgw _)⟩;simp[qhp] at e;omega
end
section
open Go.RowKit Go.Co
theorem vF{w w':qgt}{base size n:Nat}{e:qh5}{v:qgx}{xs:List qgx}(h:w.ownsRow base e size v n xs)(hg:w.grownBy w' none):w'.ownsRow base e size v n xs:=h.kept hg (qq5 (v.ownBlock=none))
theorem q6t{w:qgt}{base size n k c:Nat}{e:qh5}{b:Option qi2}{xs:List qgx}(h:w.ownsRow base e size (.slice b k c) n xs):k<=c:=by
 rcases h.2 with⟨h,-⟩ | ⟨g,cap,cur,h,-,-,h1,-⟩
 ·cases h;exact qgw _
 ·cases h;exact h1
theorem QS(ps:List Par)(l:List Int)(x:Int):qK ps (l++[x])=qK ps l+kW ps x:=by simp[qK]
structure HpI(b g Q B0 n i:Nat)(ps:List Par)(lim:Int)(pv:qgx)(ord l:List Int)(ov:qgx)(w0 w wr:qgt):Prop where
 sub:l.Sublist (ord.take i)
 tall:qK ps l<=lim
 t0:0<=qK ps l
 own:wr.ownsRow B0 3 1 ov l.length (l.map (qhe .i64))
 tin:qS wr b (g+i)
 gr:w.grownBy wr (some b)
 gr0:w0.grownBy wr (some b)
 ints:∀j,ov.ownBlock=some j->zr wr j
theorem qah{ps:List Par}{lim:Int}{ord l:List Int}{i:Nat}(ho:q8F ps.length ord)(h5:ps.length<=5)(hs:l.Sublist (ord.take i))(ht:qK ps l<=lim):POk ps lim l:=by
 have a6:l.Sublist ord:=hs.trans (qq8 _ _);exact⟨λx hx=>ho.all x (a6.subset hx),ho.nd.sublist a6,ht,by have:=a6.length_le;have:=ho.len;omega⟩
theorem q7n{ps:List Par}{m:Nat}{p:Par}(h:ps[m]?=some p):kW ps (m:Int)=p.tall:=by simp[kW,h]
theorem q9r{ord l:List Int}{i:Nat}(h:l.Sublist (ord.take i)):l.Sublist (ord.take (i+1)):=h.trans (by rw[qi7];exact List.sublist_append_left _ _)
theorem q9q{ord l:List Int}{i:Nat}{x:Int}(h:l.Sublist (ord.take i))(hx:ord[i]?=some x):(l++[x]).Sublist (ord.take (i+1)):=by
 rw[qi7,hx];exact h.append (List.Sublist.refl _)
theorem q5w(b g:Nat)(lo:Nat)(pv:qgx)(ps:List Par)(lim:Int)(w:qgt)(ht:qS w b g)(hg:g<90000)(hP:qw lo w.heap.size w pv ps)(hlo:b<lo)(h5:ps.length<=5)(k0:0<=lim)(hl2:lim<=1000)(e6:∀p∈ps,0<=p.tall/\p.tall<=100) :qhx Ya 34 #[.pointer (some ⟨b,0,none⟩),.agg #[pv,.int .i64 lim]] w λe w'=>∃l v,POk ps lim l/\e=.returned v/\Tn b (g+11) w w'/\qe w.heap.size w'.heap.size w' v l/\(∀b n c,v=.slice b n c->n<=c)/\∀ad m c,v=.slice (some ad) m c->zr w' ad.block:=by
 obtain⟨i0,k5,h8,g9,g8⟩:=qjy Tp.info3p;obtain⟨yb,yc,rfl,m4,-⟩:=hP.cell;obtain⟨Q,hQ⟩:∃Q,Q=w.heap.size:=⟨_,rfl⟩;have n3:b<Q:=by rw[hQ];exact ht.lt
 have HT:=qgr ht;have HQ:=qgr hQ;have HP:=qgr hP;have k8:=qgr e6;clear ht hQ hP e6;go_enter Tp.x34,Tryz.ntmps34;go_upto_region 1 with(fail);rw[<- HQ.out];refine JK (λu=>w.grownBy u (some b)/\qS u b g/\u.heap[Q]?=some (.cells #[.slice yb ps.length yc,.int .i64 lim] 24 (0,0))) ⟨qgs _ _ _,HT.out.alloc _,by rw[HQ.out];exact qgC _ _⟩ (λw1 hF=>?_);obtain⟨g1,t1,q1⟩:=hF;have c0:=q9 q1 (o:=0) rfl;have c1:=q9 q1 (o:=1) rfl;have G1:=qgr g1;have T1:=qgr t1;have Q1:=qgr q1;clear g1 t1 q1;go_wp2_with (first
  | (go_at_call 72;refine(q85 b g ps.length _ T1.out (by omega) (by omega)).mono ?_;rintro e w2 ⟨ord,ov,b8,rfl,e8,d6⟩;have N2:=qgr e8;have I2:=qgr d6;have b0:=qgr b8;obtain⟨ob,oc,eo,-,-⟩:=d6.cell;rw[b8.len] at eo;subst eo;clear e8 d6 b8))
 have q2:=blk N2.out.1 (by simp;omega) Q1.out;have Q2:=qgr q2;have G2:=qgr (G1.out.trans N2.out.1);have T2:=qgr N2.out.2;have l4:w.heap.size<=w1.heap.size:=G1.out.size;have l6:=J2 Q1.out;have k7:=qgr (I2.out.mono (show Q+1<=w1.heap.size by omega) (qgw _));have P2:=qgr (HP.out.kept G2.out (λR e=>by cases e;exact .inl hlo));clear q2 c0 c1 Q1 G1 T1 N2 I2;go_loopw [5,6,8] (λov tv iv wr=>∃(i:Nat) (l:List Int),iv=.int .i64 i/\tv=.int .i64 (qK ps l)/\i<=ps.length/\HpI b (g+ps.length) Q w2.heap.size ps.length i ps lim (.slice yb ps.length yc) ord l ov w2 w wr) (λ_ _ iv _=>(ps.length - qia iv).toNat)
 case atStart=>exact⟨0,[],rfl,rfl,by omega,⟨by simp,by simpa[qK] using k0,by simp[qK],qjg _ _ _ _,T2.out,G2.out,qh6 _ _,λj e=>by cases e⟩⟩
 case round=>
  obtain⟨i,l,rfl,rfl,hi,hI⟩:=hrel;obtain⟨oa,om,a6,rfl⟩:=zK hI.own;have HI:=qgr hI;have d5:=hI.tall;have ht0:=hI.t0;have n2:l.length<=5:=by have:=hI.sub.length_le;rw[qk3] at this;omega
  clear hI;by_cases hlt:i<ps.length
  ·have l5:(i:Int)<(ps.length:Int):=by omega
   have m7:IntKind.i64.wrap ((i:Int)+1)=(i:Int)+1:=qhm _ (by omega);obtain⟨x,hx⟩:∃x,ord[i]?=some x:=⟨_,qgB (by rw[b0.out.len];exact hlt)⟩;have e4:=b0.out.all x (qhc hx);obtain⟨m,rfl⟩:=Int.eq_ofNat_of_zero_le e4.1;have hm:m<ps.length:=by omega
   have m9:(m:Int)<(ps.length:Int):=by omega
   have HX:=qgr hx;clear hx e4;go_wp2_with (fail);refine(q2k b (g+ps.length+i) 5 _ HI.out.tin (by omega) (by omega) (by omega)).mono ?_;rintro e w5 ⟨⟨tr,rfl⟩,b9,-⟩;have g5:w2.grownBy w5 (some b):=HI.out.gr0.trans b9.1;have N5:=qgr b9;have G5:=qgr g5;have I5:=qgr (λ(j:Nat) (e:(qhw oa om a6).ownBlock=some j)=>(HI.out.ints j e).kept b9.1 (λe2=>by have h1:=(HI.out.own.lt j e).1;have h2:=T2.out.lt;cases e2;omega));have O5:=qgr (HI.out.own.kept b9.1 (by
    by_cases e:(qhw oa om a6).ownBlock=some b
    ·have h1:=(HI.out.own.lt b e).1;have h2:=T2.out.lt;omega
    ·exact .inr e))
   clear b9 g5;cases tr with
   | true=>
    go_wp2;go_ret;exact⟨l,_,qah b0.out h5 HI.out.sub d5,rfl,⟨HI.out.gr.trans N5.out.1,N5.out.2.mono (by omega)⟩,(qe.own O5.out (by have:=HI.out.sub.length_le;rw[qk3] at this;omega)).mono (by have:=G2.out.size;omega) (qgw _),λ_ _ _ e=>(by cases(show qhw oa om a6=_ from e);exact q6t O5.out),λad m2 c2 e=>by cases(show qhw oa om a6=_ from e);exact(HI.out.ints _ rfl).kept N5.out.1 (λe2=>by have h1:=(HI.out.own.lt _ rfl).1;have h2:=T2.out.lt;cases e2;omega)⟩
   | false=>
    have e9:=k7.out.kept G5.out (λR e=>by cases e;exact .inl (by omega));obtain⟨m3,l9,eo,-,e7⟩:=e9.cell;injection eo with eo1 eo2 eo3;subst eo1 eo3;clear eo2;obtain⟨OB,oo,rfl,-,-,p4,hcell⟩:=e7 (by intro e;have:=b0.out.len;rw[e] at this;simp at this;omega);have x1:=hcell i (by rw[b0.out.len];exact hlt);rw[HX.out] at x1;simp only[qgD] at x1;have q5:=blk G5.out (by simp;omega) Q2.out;have p5:=P2.out.kept G5.out (λR e=>by cases e;exact .inl hlo);obtain⟨l8,l7,ey,-,d9⟩:=p5.cell;cases ey;obtain⟨YB,yo,rfl,-,n6,n7,a9⟩:=d9 (by intro e;rw[e] at hm;simp at hm);obtain⟨p,hp,p0,p1,p2,p3⟩:=a9 m hm;have m8:=k8.out p (qhc hp);have e5:=q7n hp;have d0:=q9 q5 (o:=0) rfl;have d1:=q9 q5 (o:=1) rfl;have d8:=qgr e5;have Q5:=qgr q5;have h9:IntKind.i64.wrap (qK ps l+p.tall)=qK ps l+p.tall:=qhm _ (by omega);clear e9 hcell e7 p5 d9 a9 q5 hp e5 p0 p1 p2;obtain⟨tl,b6⟩:∃tl,tl=qK ps l:=⟨_,rfl⟩;rw[<- b6] at d5 h9 ht0 ⊢;have c8:=qgr b6;clear b6;by_cases g6:tl+p.tall<=lim
    ·go_wp2_with (fail);go_quiet (fail);go_wp2_with (fail);have a7:w5.grownBy (w5.drewN nq) none:=qk _ _ _;generalize w5.drewN nq=w7 at a7 ⊢;have g7:=G5.out.andThen a7 (by simp);have e0:=q9 (blk a7 (by simp) Q5.out) (o:=0) rfl;have e1:=a7.cell p3 (by simp);have q7:=blk a7 (by simp) Q5.out;have Q7:=qgr q7;have n9:Q<w7.heap.size:=J2 q7;have n8:YB<w7.heap.size:=by have:=a7.size;omega
     have I7:=qgr (λ(j:Nat) (e:(qhw oa om a6).ownBlock=some j)=>(I5.out j e).kept a7 (by simp));have O7:=qgr (vF O5.out a7);have T7:=qgr (N5.out.2.kept a7 (by simp));have G7:=qgr g7;have GW:=qgr ((HI.out.gr.trans N5.out.1).andThen a7 (by simp));clear a7 g7 d0 d1 x1 p3 Q5;have I8:=qgr (λ(j:Nat) (e:(qhw oa om a6).ownBlock=some j)=>(I7.out j e).kept (qgs w7 (.cells #[.int .i64 m] 3) none) (by simp));have N8:=qgr (show zp [qhe .i64 m] from λv hv=>⟨_,_,qib.1 hv⟩);have Z8:=qgr (show zp (qhe .i64 0).cells.toList from λv hv=>by simp[Value.cells] at hv;exact⟨_,_,hv⟩);have k6:some Q≠(qhw oa om a6).ownBlock:=λe=>by have:=(O7.out.lt Q e.symm).1;have:=J2 Q2.out;omega
     go_region_law
      (first
       | (refine vu (by rfl) _ _ _ (by rfl) w2.heap.size 3 i0 _ 1 8 Tp.und29' k5 h8 g9 g8 rfl (by omega) (.slice oa om a6) l.length (l.map (qhe .i64)) (by rfl) (by exact O7.out.alloc _) ⟨w7.heap.size,0,none⟩ 1 1 [.int .i64 m] (by rfl) (by rfl) (qit (cs:=#[.int .i64 m]) (t:=3) (fr:=(0,0)) (qgC w7 _)) (by simp[qjh]) (by omega) (by unfold qky;omega) (by omega) (by simp;have:=G7.out.size;omega) (w7.heap.size+1) (by simp) I8.out N8.out Z8.out ?_;intro gg cap w8 b7 a8 n4 hgl c9;have k9:=qgr c9;clear c9;have B8:=blk a8 k6 (qr Q7.out);have p8:=q9 B8 (o:=0) rfl;have p7:=a8.cell ((qgs w7 (.cells #[.int .i64 m] 3) none).cell e1 (by simp)) (λe=>by have h1:w2.heap.size<=YB:=(O7.out.lt _ e.symm).1;have:=G2.out.size;omega);have m6:Q<w8.heap.size:=J2 B8;have m5:YB<w8.heap.size:=(by have:=a8.size;simp at this;omega);have HG:=qgr a8;have HO:=qgr b7;clear B8 b7))
     all_goals
      have c3:∀j,(qhw oa om a6).ownBlock=some j->w2.heap.size<=j:=λj e=>(O7.out.lt j e).1;have p6:=G2.out.size;have HH:(w7.alloc (.cells #[.int .i64 m] 3)).grownBy w8 (qhw oa om a6).ownBlock:=⟨HG.out.os,HG.out.tape,HG.out.output,HG.out.size,HG.out.block⟩;have d7:=qgs w7 (.cells #[.int .i64 m] 3) none;have hFin:HpI b (g+ps.length) Q w2.heap.size ps.length (i+1) ps lim (.slice (some ⟨YB,yo,none⟩) ps.length yc) ord (l++[(m:Int)]) (.slice (some ⟨gg,0,none⟩) (l.length+1) cap) w2 w w8 :=
       ⟨q9q HI.out.sub HX.out,by rw[QS,d8.out,<- c8.out];exact g6,by rw[QS,d8.out,<- c8.out];omega,by rw[qih,qiH];exact HO.out,(T7.out.alloc _).kept HH (λj e=>by have:=c3 j e;have:=T2.out.lt;omega),q5A (GW.out.andThen d7 (by simp)) HH (λj e=>by have:=c3 j e;omega),q5A (G7.out.andThen d7 (by simp)) HH (λj e=>c3 j e),λj e=>by simp[qhp] at e;subst e;exact k9.out⟩
      have FF:=qgr hFin;have FT:=qgr (show tl+p.tall=qK ps (l++[(m:Int)]) by rw[QS,d8.out,<- c8.out]);clear hFin c3 d7;go_wp2;go_roundw
      case rel=>exact⟨i+1,l++[(m:Int)],by simp,by rw[FT.out],by omega,FF.out⟩
      case measure=>simp[qia];omega
    ·go_wp2_with (fail);go_quiet (fail);go_wp2_with (fail);go_roundw
     case rel=>
      exact⟨i+1,l,by simp,by rw[c8.out],by omega,q9r HI.out.sub,HI.out.tall,HI.out.t0,vF O5.out (qk _ _ none),N5.out.2.kept (qk _ _ none) (by simp),(HI.out.gr.trans N5.out.1).trans (qk _ _ _),G5.out.trans (qk _ _ _),λj e=>(I5.out j e).kept (qk _ _ none) (by simp)⟩
     case measure=>simp[qia];omega
  ·obtain rfl:i=ps.length:=by omega
   go_wp2;go_ret;exact⟨l,_,qah b0.out h5 HI.out.sub d5,rfl,⟨HI.out.gr,HI.out.tin.mono (by omega)⟩,(qe.own HI.out.own (by have:=HI.out.sub.length_le;rw[qk3] at this;omega)).mono (by have:=G2.out.size;omega) (qgw _),λ_ _ _ e=>(by cases(show qhw oa om a6=_ from e);exact q6t HI.out.own),λad m2 c2 e=>by cases(show qhw oa om a6=_ from e);exact HI.out.ints _ rfl⟩
theorem q5x(b g:Nat)(lo:Nat)(pv:qgx)(ps:List Par)(lim:Int)(w:qgt)(ht:qS w b g)(hg:g<90000)(hP:qw lo w.heap.size w pv ps)(hlo:b<lo)(h5:ps.length<=5)(a7:0<=lim)(hl2:lim<=1000)(a6:∀p∈ps,0<=p.tall/\p.tall<=100) :qhx Ya 34 #[.pointer (some ⟨b,0,none⟩),.agg #[pv,.int .i64 lim]] w λe w'=>∃l v,POk ps lim l/\e=.returned v/\Tn b (g+11) w w'/\qe w.heap.size w'.heap.size w' v l/\∀b n c,v=.slice b n c->n<=c :=
 (q5w b g lo pv ps lim w ht hg hP hlo h5 a7 hl2 a6).mono λ_ _ ⟨l,v,h1,h2,h3,h4,h5,_⟩=>⟨l,v,h1,h2,h3,h4,h5⟩
theorem q5y(b g:Nat)(lo:Nat)(pv:qgx)(ps:List Par)(lim:Int)(w:qgt)(ht:qS w b g)(hg:g<90000)(hP:qw lo w.heap.size w pv ps)(hlo:b<lo)(h5:ps.length<=5)(a7:0<=lim)(hl2:lim<=1000)(a6:∀p∈ps,0<=p.tall/\p.tall<=100) :qhx Ya 34 #[.pointer (some ⟨b,0,none⟩),.agg #[pv,.int .i64 lim]] w λe w'=>∃l v,POk ps lim l/\e=.returned v/\Tn b (g+11) w w'/\qe w.heap.size w'.heap.size w' v l :=
 (q5x b g lo pv ps lim w ht hg hP hlo h5 a7 hl2 a6).mono λ_ _ ⟨l,v,h1,h2,h3,h4,_⟩=>⟨l,v,h1,h2,h3,h4⟩
end
section
open Go.RowKit
def QA(x y:Int):Int:=if x<y then -1 else if y<x then 1 else 0
def zq:List Int->List Int->Int
 | [],[]=>0
 | [],_::_=>-1
 | _::_,[]=>1
 | x::a,y::b=>if QA x y≠0 then QA x y else zq a b
theorem qdm(x y:Int)(w:qgt):qhx Ya 157 #[.int .i64 x,.int .i64 y] w λe w'=>e=.returned (.int .i64 (QA x y))/\w=w':=by
 unfold QA;by_cases h1:x<y
 ·rw[if_pos h1];go_enter Tp.x157,qpx;go_wp2_with (first | (go_at_call 198;refine(Qv _ _).mono ?_;rintro e w2 ⟨rfl,rfl⟩));go_ret;exact⟨rfl,rfl⟩
 ·rw[if_neg h1];by_cases h2:y<x
  ·rw[if_pos h2];go_enter Tp.x157,qpx;go_wp2_with (first | (go_at_call 198;refine(Qv _ _).mono ?_;rintro e w2 ⟨rfl,rfl⟩));go_ret;exact⟨rfl,rfl⟩
  ·rw[if_neg h2];go_enter Tp.x157,qpx;go_wp2_with (first | (go_at_call 198;refine(Qv _ _).mono ?_;rintro e w2 ⟨rfl,rfl⟩));go_ret;exact⟨rfl,rfl⟩
theorem q0H(a b:List Int)(k:Nat)(x y:Int)(hx:a[k]?=some x)(hy:b[k]?=some y):zq (a.drop k) (b.drop k)=if QA x y≠0 then QA x y else zq (a.drop (k+1)) (b.drop (k+1)):=by
 obtain⟨h1,e1⟩:=qh0.1 hx;obtain⟨h2,e2⟩:=qh0.1 hy;rw[qj7 h1,qj7 h2,e1,e2];rfl
theorem Jy(la ha lb hb:Nat)(va vb:qgx)(a b:List Int)(w:qgt)(hA:qe la ha w va a)(hB:qe lb hb w vb b) :qhx Ya 122 #[va,vb] w λe w'=>e=.returned (.int .i64 (zq a b))/\w=w':=by
 obtain⟨ba,ca,rfl,c3,h1⟩:=hA.cell;obtain⟨bb,cb,rfl,hl2,h2⟩:=hB.cell;have H1:=qgr h1;have H2:=qgr h2;clear h1 h2 hA hB;go_enter Tp.x122,Tryz.ntmps122;go_wp2;go_loopw [11] (λiv wr=>∃k:Nat,iv=.int .i64 k/\k<=a.length/\k<=b.length/\zq a b=zq (a.drop k) (b.drop k)/\w=wr) (λiv _=>(a.length - qia iv).toNat)
 case atStart=>exact⟨0,rfl,by omega,by omega,rfl,rfl⟩
 case round=>
  obtain⟨k,rfl,hk,c8,hc,rfl⟩:=hrel;have HC:=qgr hc;clear hc;by_cases hlt:k<a.length
  ·obtain⟨x,e1⟩:∃x,a[k]?=some x:=⟨_,qgB hlt⟩;obtain⟨A1,o1,rfl,e5,e4,d9,a9⟩:=H1.out (by intro e;rw[e] at hlt;simp at hlt);have x1:=a9 k hlt;rw[e1] at x1;simp only[qgD] at x1;have d5:(k:Int)<(a.length:Int):=by omega
   have E1:=qgr e1;clear a9 e1;by_cases a6:k<b.length
   ·obtain⟨y,e2⟩:∃y,b[k]?=some y:=⟨_,qgB a6⟩;obtain⟨B1,o2,rfl,d8,d7,d6,a8⟩:=H2.out (by intro e;rw[e] at a6;simp at a6);have y1:=a8 k a6;rw[e2] at y1;simp only[qgD] at y1;have c9:(k:Int)<(b.length:Int):=by omega
    have hst:=q0H a b k x y E1.out e2;have a7:=qgr hst;have hcc:=qdm x y w;clear a8 e2 hst;generalize QA x y=z at hcc a7;have b0:=qgr hcc;clear hcc;by_cases hz:z=0
    ·subst hz;go_wp2_with (first | (go_at_call 157;refine(b0.out).mono ?_;rintro e w2 ⟨rfl,rfl⟩));go_roundw
     case rel=>exact⟨k+1,by simp,by omega,by omega,by rw[HC.out,a7.out];simp,by first | trivial | rfl⟩
     case measure=>simp[qia];omega
    ·have b8:(z != 0)=true:=by simpa using hz
     have HZ:=qgr hz;clear hz;go_wp2_with (first | (go_at_call 157;refine(b0.out).mono ?_;rintro e w2 ⟨rfl,rfl⟩));go_ret;exact⟨by rw[HC.out,a7.out,if_pos HZ.out];rfl,rfl⟩
   ·have b9:(b.length:Int)<=(k:Int):=by omega
    have hv:zq a b=1:=by
     rw[HC.out,qkb (show b.length<=k by omega),qj7 hlt];rfl
    have HV:=qgr hv;clear hv;go_wp2;go_ret;exact⟨by rw[HV.out];rfl,rfl⟩
  ·obtain rfl:k=a.length:=by omega
   by_cases b7:a.length<b.length
   ·have b6:(a.length:Int)<(b.length:Int):=by omega
    have hv:zq a b=-1:=by
     rw[HC.out,qkb (qgw _),qj7 b7];rfl
    have HV:=qgr hv;clear hv;go_wp2;go_ret;exact⟨by rw[HV.out];rfl,rfl⟩
   ·have b6:¬ (a.length:Int)<(b.length:Int):=by omega
    have hv:zq a b=0:=by
     rw[HC.out,qkb (qgw _),qkb (show b.length<=a.length by omega)];rfl
    have HV:=qgr hv;clear hv;go_wp2;go_ret;exact⟨by rw[HV.out];rfl,rfl⟩
theorem Jv(la ha lb hb:Nat)(va vb:qgx)(a b:List Int)(w:qgt)(hA:qe la ha w va a)(hB:qe lb hb w vb b) :qhx Ya 99 #[va,vb] w λe w'=>e=.returned (.bool (decide (zq a b<0)))/\w=w':=by
 have hc:=Jy la ha lb hb va vb a b w hA hB;obtain⟨ba,ca,rfl,a6,h1⟩:=hA.cell;obtain⟨bb,cb,rfl,hl2,h2⟩:=hB.cell;clear h1 h2 hA hB;generalize zq a b=z at hc ⊢;have HC:=qgr hc;clear hc;go_enter Tp.x99,Tryz.ntmps99;go_wp2_with (first | (go_at_call 122;refine(HC.out).mono ?_;rintro e w2 ⟨rfl,rfl⟩));go_ret;exact⟨rfl,rfl⟩
def Zz(a b:List Int):Bool:=decide (b.length<a.length) || (decide (a.length=b.length) && decide (zq a b<0))
theorem q0v(la ha lb hb:Nat)(va vb:qgx)(a b:List Int)(w:qgt)(hA:qe la ha w va a)(hB:qe lb hb w vb b) :qhx Ya 98 #[va,vb] w λe w'=>e=.returned (.bool (Zz a b))/\w=w':=by
 have hc:=Jv la ha lb hb va vb a b w hA hB;obtain⟨ba,ca,rfl,a9,h1⟩:=hA.cell;obtain⟨bb,cb,rfl,hl2,h2⟩:=hB.cell;unfold Zz;generalize decide (zq a b<0)=z at hc ⊢;have HC:=qgr hc;clear hc h1 h2 hA hB;by_cases hgt:b.length<a.length
 ·have a7:(b.length:Int)<(a.length:Int):=by omega
  have hv:(decide (b.length<a.length) || (decide (a.length=b.length) && z))=true:=by simp[hgt]
  have HV:=qgr hv;clear hv hgt;go_enter Tp.x98,qq9;go_wp2_with (first | (go_at_call 99;refine(HC.out).mono ?_;rintro e w2 ⟨rfl,rfl⟩));go_ret;exact⟨by rw[HV.out];rfl,rfl⟩
 ·have a7:¬ (b.length:Int)<(a.length:Int):=by omega
  by_cases a6:a.length=b.length
  ·have a8:((a.length:Int) == (b.length:Int))=true:=by simp[a6]
   have hv:(decide (b.length<a.length) || (decide (a.length=b.length) && z))=z:=by simp[a6]
   have HV:=qgr hv;clear hv hgt a6;go_enter Tp.x98,qq9;go_wp2_with (first | (go_at_call 99;refine(HC.out).mono ?_;rintro e w2 ⟨rfl,rfl⟩));go_ret;exact⟨by rw[HV.out];rfl,rfl⟩
  ·have a8:((a.length:Int) == (b.length:Int))=false:=by rw[beq_eq_false_iff_ne];omega
   have hv:(decide (b.length<a.length) || (decide (a.length=b.length) && z))=false:=by simp[a6];omega
   have HV:=qgr hv;clear hv hgt a6;go_enter Tp.x98,qq9;go_wp2_with (first | (go_at_call 99;refine(HC.out).mono ?_;rintro e w2 ⟨rfl,rfl⟩));go_ret;exact⟨by rw[HV.out];rfl,rfl⟩
def zo(n:Nat):List Int:=(qhl n).map λ(i:Nat)=>(i:Int)
theorem zk(n:Nat):(zo n).length=n:=by simp[zo]
theorem q0h(n:Nat):zo (n+1)=zo n++[(n:Int)]:=by simp[zo,qkG]
theorem xY(yb:Option qi2)(n yc:Nat)(lim:Int)(w:qgt)(hn:n<=1000) :qhx Ya 100 #[.agg #[.slice yb n yc,.int .i64 lim]] w λe w'=>∃v,e=.returned v/\w.grownBy w' none/\qe w.heap.size w'.heap.size w' v (zo n):=by
 obtain⟨i0,c3,b9,b8,b7⟩:=qjy Tp.info3p;obtain⟨Y,hY⟩:∃Y,Y=w.heap.size:=⟨_,rfl⟩;obtain⟨w1,a8⟩:∃w1,w1=w.alloc (.cells #[.slice yb n yc,.int .i64 lim] 91):=⟨_,rfl⟩;have a9:w.grownBy w1 none:=by rw[a8];exact qgs _ _ none
 have b0:w1.heap[Y]?=some (.cells #[.slice yb n yc,.int .i64 lim] 91 (0,0)):=by rw[a8,hY];exact qgC w _
 have q0:w1.cell? ⟨Y,0,none⟩=some (.slice yb n yc):=q9 b0 rfl;have d8:Y<=w1.heap.size:=by have:=a9.size;omega
 have c8:=qgr a8;have HY:=qgr hY;have b6:=qgr a9;clear a8 hY a9 b0;go_enter Tp.x100,Tryz.ntmps100;go_upto_region 1 with(fail);rw[<- HY.out,show w.alloc (.cells #[.slice yb n yc,.int .i64 lim] 91)=w1 from c8.out.symm];go_wp2;go_loopw [3,9] (λov iv wr=>∃k:Nat,iv=.int .i64 k/\k<=n/\w1.grownBy wr none/\wr.ownsRow w1.heap.size 3 1 ov k ((zo k).map (qhe .i64))) (λ_ iv _=>(n - qia iv).toNat)
 case atStart=>exact⟨0,rfl,by omega,qh6 _ _,qjg _ _ _ _⟩
 case round=>
  obtain⟨k,rfl,hk,hG,hO⟩:=hrel;obtain⟨oa,om,oc,rfl⟩:=zK hO;have HG:=qgr hG;have HO:=qgr hO;have d7:=hG.size;by_cases hlt:k<n
  ·have d6:(k:Int)<(n:Int):=by omega
   clear hG hO;go_wp2_with (first
    | (at_builtin;go_must (refine wpList_append_own _ rfl _ _ 29 rfl w1.heap.size 3 i0 _ 1 8 Tp.und29' c3 b9 b8 b7 rfl (by decide) (.slice oa om oc) k _ rfl (HO.out.alloc _) ⟨wr.heap.size,0,none⟩ 1 1 [.int .i64 k] rfl rfl (qit (cs:=#[.int .i64 k]) (t:=3) (fr:=(0,0)) (qgC wr _)) (by simp[qjh]) (by unfold qky;omega) (by omega) (by simp;omega) ?_);intro v' w7 a6 a7 _;obtain⟨g',cap',rfl⟩:=ownsRow_succ a6;have c9:=qgr a6;have d5:=qgr a7;clear a6 a7))
   go_roundw
   case rel=>
    refine⟨k+1,by simp,by omega,(HG.out.trans (qgs _ _ none)).andThen d5.out (λj e=>.inl (HO.out.lt j e).1),?_⟩;rw[q0h,qiH];exact c9.out
   case measure=>simp[qia];omega
  ·obtain rfl:k=n:=by omega
   clear hG hO;go_wp2;go_ret;exact⟨_,rfl,b6.out.trans HG.out,(qe.own HO.out (by rw[zk];omega)).mono b6.out.size (qgw _)⟩
def qgc(L:Nat)(s:Bool)(bv xv:qgx)(a6 x:List Int)(w w':qgt):Prop :=
 w.grownBy w' (some L)/\w'.heap[L]?=some (.cells #[.func (.func 98) #[] #[],if s=true/\Zz x a6=false then bv else xv,.bool true] 108 (0,0))
theorem q9i(L:Nat)(s:Bool)(bv xv:qgx)(a6 x:List Int)(w:qgt)(hL:w.heap[L]?=some (.cells #[.func (.func 98) #[] #[],bv,.bool s] 108 (0,0)))(hb:qe 0 w.heap.size w bv a6)(hx:qe 0 w.heap.size w xv x) :qhx Ya 103 #[.pointer (some ⟨L,0,none⟩),xv] w λe w'=>e=.returned (.tuple #[])/\qgc L s bv xv a6 x w w':=by
 obtain⟨bb,bc,rfl,-,-⟩:=hb.cell;obtain⟨xb,xc,rfl,-,-⟩:=hx.cell;have c0:w.cell? ⟨L,0,none⟩=some (.func (.func 98) #[] #[]):=q9 hL rfl;have c1:w.cell? ⟨L,1,none⟩=some (.slice bb a6.length bc):=q9 hL rfl;have c2:w.cell? ⟨L,2,none⟩=some (.bool s):=q9 hL rfl;have z1:w.frozen? ⟨L,1,none⟩=false:=qq hL;have z2:w.frozen? ⟨L,2,none⟩=false:=qq hL;have HL:=qgr hL;have HB:=qgr hb;have HX:=qgr hx;have SC:=qgr (qhb c0 (qhb c1 c2));clear hL hb hx;go_enter Tp.x103,Tryz.ntmps103;cases s with
 | false=>
  go_wp2_with (fail);go_quiet (fail);go_wp2;go_end0;refine⟨rfl,((qk _ _ _).trans (qh _ _ _ _)).trans (qh _ _ _ _),?_⟩;rw[if_neg (by simp ),qj (show((w.drewN nq).setCell ⟨L,1,none⟩ (.slice xb x.length xc)).heap[L]?=some (.cells #[.func (.func 98) #[] #[],.slice xb x.length xc,.bool false] 108 (0,0)) by rw[qj (show(w.drewN nq).heap[L]?=_ from HL.out)];rfl)];rfl
 | true=>
  cases hl:Zz x a6 with
  | true=>
   have a7:=qgr hl;clear hl;go_wp2_with (fail);go_quiet (first | (go_at_call 98;refine qiG ((q0v 0 w.heap.size 0 w.heap.size _ _ x a6 _ (HX.out.kept (qk _ _ none) (by simp)) (HB.out.kept (qk _ _ none) (by simp))).mono (λe w5 h=>⟨by rw[h.1,a7.out],h.2.symm⟩))));go_wp2;go_end0;refine⟨rfl,((qk _ _ _).trans (qh _ _ _ _)).trans (qh _ _ _ _),?_⟩;rw[if_neg (by simp[a7.out]),qj (show((w.drewN nq).setCell ⟨L,1,none⟩ (.slice xb x.length xc)).heap[L]?=some (.cells #[.func (.func 98) #[] #[],.slice xb x.length xc,.bool true] 108 (0,0)) by rw[qj (show(w.drewN nq).heap[L]?=_ from HL.out)];rfl)];rfl
  | false=>
   have a7:=qgr hl;clear hl;go_wp2_with (fail);go_quiet (first | (go_at_call 98;refine qiG ((q0v 0 w.heap.size 0 w.heap.size _ _ x a6 _ (HX.out.kept (qk _ _ none) (by simp)) (HB.out.kept (qk _ _ none) (by simp))).mono (λe w5 h=>⟨by rw[h.1,a7.out],h.2.symm⟩))));go_wp2;go_end0;refine⟨rfl,(qk _ _ _),?_⟩;rw[if_pos ⟨rfl,a7.out⟩];exact HL.out
end
section
open Go Go.RowKit
def A5(l:List Int):qgx:=.agg (l.map (qhe .i64)).toArray
theorem Tp.und118:Ya.underlying 118=some (.array 5 3):=by rw[Tp.und];exact Tryz.underlying118
theorem Tp.und120:Ya.underlying 120=some (.map 118 3):=by rw[Tp.und];exact Tryz.underlying120
theorem Tp.und3q:Ya.underlying 3=some (.int .i64):=by rw[Tp.und];exact Tryz.underlying3
theorem qdB(l:List Int)(i:Nat)(x:Int)(h:l[i]?=some x)(w:qgt):(part 3 (l.map (qhe .i64)).toArray i).run Ya w=.ok (.int .i64 x) w :=
 run_part_plain w (by kernel_rfl) (by simp[h])
theorem qbt(x y:Int)(s t:List Int):decide (x::s=y::t)=((x == y) && decide (s=t)):=by
 by_cases e:x=y<;>simp[e]
theorem q4a(a b:List Int)(hl:a.length=b.length)(w:qgt):∀(m k:Nat),k+m=a.length->(Op.eqItems 9999 3 1 (a.map (qhe .i64)).toArray (b.map (qhe .i64)).toArray (qnw k m)).run Ya w=.ok (decide (a.drop k=b.drop k)) w
 | 0,k,h=>by
  rw[qkb (by omega),qkb (by omega)];simp[Op.eqItems]
 | m+1,k,h=>by
  have ih:=q4a a b hl w m (k+1) (by omega);have ha:a[k]?=some a[k]:=qgB (by omega);have hb:b[k]?=some b[k]:=qgB (by omega);rw[List.range'_succ];simp only[Op.eqItems,Nat.mul_one,qiw,qdB a k _ ha,qdB b k _ hb,qix,run_equalIn_int w 9998 3 .i64 .i64 _ _ Tp.und3q];have hd:decide (a.drop k=b.drop k)=((a[k] == b[k]) && decide (a.drop (k+1)=b.drop (k+1))):=by
   rw[qj7 (show k<a.length by omega),qj7 (show k<b.length by omega)];exact qbt _ _ _ _
  rw[hd];cases(a[k] == b[k])
  ·simp
  ·simpa using ih
theorem eqA5(a b:List Int)(ha:a.length=5)(hb:b.length=5)(w:qgt):(Op.equalIn 10000 118 (A5 a) (A5 b)).run Ya w=.ok (decide (a=b)) w:=by
 obtain⟨i,hi⟩:∃i,Ya.info? 3=some i:=⟨_,(qjy Tp.info3p).choose_spec.1⟩;have hc:Ya.cellsOf 3=1:=by kernel_rfl
 unfold A5;rw[show(10000:Nat)=9999+1 from rfl,run_equalIn_array w 9999 _ _ Tp.und118 hi,hc,List.range_eq_range',q4a a b (by omega) w 5 0 (by omega)];rfl
theorem qba(a:List Int)(ha:a.length=5)(w:qgt):∀(es:List qki) (K:List (List Int)) (i:Nat),es.map (·.key)=K.map A5->(∀k∈K,k.length=5)->(∀e∈es,∃v:Int,e.val=.int .i64 v) ->∃r,(ql5 118 (A5 a) es i).run Ya w=.ok r w/\(a∈K->∃j v,r=some (j,.int .i64 v))/\(a∉K->r=none)
 | [],K,i,h,_,_=>by
  have:K=[]:=by simpa using h.symm
  subst this;exact⟨none,by simp[ql5],by simp,by simp⟩
 | e::es,[],i,h,_,_=>by simp at h
 | e::es,k::K,i,h,h5,hv=>by
  simp only[qjr,qjG] at h;have he:=eqA5 a k ha (h5 k (by simp)) w;have hq:(Op.equal 118 (A5 a) e.key).run Ya w=.ok (decide (a=k)) w:=by rw[h.1];exact he
  by_cases hk:a=k
  ·subst hk;obtain⟨v,a6⟩:=hv e (by simp);refine⟨some (i,e.val),?_,λ_=>⟨i,v,by rw[a6]⟩,λhn=>absurd (by simp) hn⟩;simp only[ql5,qiw,hq,qix,decide_true,if_true,qnc]
  ·obtain⟨r,h1,h2,h3⟩:=qba a ha w es K (i+1) h.2 (λx hx=>h5 x (by simp[hx])) (λx hx=>hv x (by simp[hx]));refine⟨r,?_,λhm=>h2 ((qif.1 hm).resolve_left hk),λhn=>h3 λhm=>hn (by simp[hm])⟩;simp only[ql5,qiw,hq,qix];simpa[hk] using h1
theorem qg6(a b:Array qgx)(v:qgx)(n:Nat)(es:List qki)(w:qgt):(qlp 118 (.agg a) (⟨.agg b,v,n⟩::es)).run Ya w=(ql5 118 (.agg a) (⟨.agg b,v,n⟩::es)).run Ya w:=by kernel_rfl
theorem q41(a:List Int)(ha:a.length=5)(w:qgt)(es:List qki)(K:List (List Int))(h:es.map (·.key)=K.map A5)(h5:∀k∈K,k.length=5)(hv:∀e∈es,∃v:Int,e.val=.int .i64 v) :∃r,(qlp 118 (A5 a) es).run Ya w=.ok r w/\(a∈K->∃j v,r=some (j,.int .i64 v))/\(a∉K->r=none):=by
 cases es with
 | nil=>
  have:K=[]:=by simpa using h.symm
  subst this;exact⟨none,by unfold A5;kernel_rfl,by simp,by simp⟩
 | cons e es=>
  obtain⟨k,K',rfl⟩:∃k K',K=k::K':=by
   cases K with
   | nil=>simp at h
   | cons k K'=>exact⟨k,K',rfl⟩
  obtain⟨r,h1,h2⟩:=qba a ha w (e::es) (k::K') 0 h h5 hv;refine⟨r,?_,h2⟩;obtain⟨ek,ev,eb⟩:=e;have hk:ek=A5 k:=by simpa using(List.cons.inj h).1
  subst hk;exact(qg6 _ _ ev eb es w).trans h1
theorem q66(b:Bool)(a:List Int)(ha:a.length=5)(w:qgt):(qkB b 10000 118 (A5 a)).run Ya w=.ok () w:=by
 obtain⟨a0,a1,a2,a3,a4,rfl⟩:∃a0 a1 a2 a3 a4,a=[a0,a1,a2,a3,a4]:=by
  rcases a with _ | ⟨a0,_ | ⟨a1,_ | ⟨a2,_ | ⟨a3,_ | ⟨a4,_ | ⟨a5,t⟩⟩⟩⟩⟩⟩<;>simp at ha;exact⟨a0,a1,a2,a3,a4,rfl⟩
 show(qkB b 10000 118 (.agg #[.int .i64 a0,.int .i64 a1,.int .i64 a2,.int .i64 a3,.int .i64 a4])).run Ya w=.ok () w;kernel_rfl
def zS(w:qgt)(r:Nat)(K:List (List Int)):Prop :=
 ∃es clock,w.heap[r]?=some (.map es clock)/\es.toList.map (·.key)=K.map A5/\(∀k∈K,k.length=5)/\∀e∈es.toList,∃v:Int,e.val=.int .i64 v
theorem zS.look{w:qgt}{r:Nat}{K:List (List Int)}(h:zS w r K)(a:List Int)(ha:a.length=5):∃v:Int,(qmq 120 (.map (some r)) (A5 a) true).run Ya w=.ok (.tuple #[.int .i64 v,.bool (decide (a∈K))]) w:=by
 obtain⟨es,clock,h1,h2,h3,h4⟩:=h;obtain⟨q,k1,k2,k3⟩:=q41 a ha w es.toList K h2 h3 h4;have hz:∀w,(qlv 3).run Ya w=.ok (.int .i64 0) w:=λw=>by kernel_rfl
 by_cases hm:a∈K
 ·obtain⟨j,v,rfl⟩:=k2 hm;refine⟨v,?_⟩;simp[qmq,qiw,run_underlying Tp.und120,getObj,qie,h1,qml,q66 _ a ha,k1,hm]
 ·obtain rfl:=k3 hm;refine⟨0,?_⟩;simp[qmq,qiw,run_underlying Tp.und120,getObj,qie,h1,qml,q66 _ a ha,k1,hm,hz]
theorem zS.add{w:qgt}{r:Nat}{K:List (List Int)}(h:zS w r K)(a:List Int)(ha:a.length=5)(hn:a∉K)(v:Int):∃o,(∀m t,o≠.cells m t (0,0))/\(qiz 120 (.map (some r)) (A5 a) (.int .i64 v)).run Ya w=.ok () (w.putObj r o)/\∀w',w'.heap[r]?=some o->zS w' r (K++[a]):=by
 obtain⟨es,clock,h1,h2,h3,h4⟩:=h;obtain⟨q,k1,k2,k3⟩:=q41 a ha w es.toList K h2 h3 h4;obtain rfl:=k3 hn;refine⟨.map (es.push ⟨A5 a,.int .i64 v,clock⟩) (clock+1),(λm t e=>(by cases e)),?_,λw' hw=>⟨_,_,hw,by simp[h2],λk hk=>?_,λe he=>?_⟩⟩
 ·simp[qiz,qiw,run_underlying Tp.und120,getObj,setObj,qie,h1,qml,q66 _ a ha,k1,World.putObj]
 ·rcases qiF.1 hk with h | h
  ·exact h3 k h
  ·rw[qib.1 h];exact ha
 ·rw[Array.toList_push] at he;rcases qiF.1 he with h | h
  ·exact h4 e h
  ·rw[qib.1 h];exact⟨v,rfl⟩
theorem zS.nil{w:qgt}{r:Nat}(h:w.heap[r]?=some (.map #[] 0)):zS w r []:=⟨_,_,h,rfl,by simp,by simp⟩
theorem zS.kept{w w':qgt}{r:Nat}{K:List (List Int)}(h:zS w r K)(e:w'.heap[r]?=w.heap[r]?):zS w' r K:=by
 obtain⟨es,clock,h1,h2⟩:=h;exact⟨es,clock,e.trans h1,h2⟩
end
section
open Go.RowKit
def ZL(n1:Nat)(G:Nat->Prop)(W:qgt)(v:qgx)(l:List Int):Prop:=qe n1 W.heap.size W v l/\∀B o n c,v=.slice (some ⟨B,o,none⟩) n c->l≠[]->¬ G B
theorem ZL.bod{n1:Nat}{G G':Nat->Prop}{A C:qgt}{v:qgx}{l:List Int}(h:ZL n1 G A v l)(hb:Bod n1 n1 G G' A C):ZL n1 G' C v l:=by
 obtain⟨⟨base,cap,rfl,hl,hr⟩,hf⟩:=h;refine⟨⟨base,cap,rfl,hl,λhne=>?_⟩,λB o n c e hne hg=>?_⟩
 ·obtain⟨B,o,cs,fr,e1,e2,e3,e4,e5⟩:=hr hne;exact⟨B,o,cs,fr,e1,e2,qh2 e3 hb.size,(hb.keep B e3 (.inl e2) (hf B o _ _ (by rw[e1]) hne)).trans e4,e5⟩
 ·obtain⟨B',o',cs,fr,e1,e2,e3,e4,e5⟩:=hr hne;rw[e1] at e;cases e;exact(hb.fp _ hg).elim (hf _ _ _ _ (by rw[e1]) hne) (by omega)
theorem jR{n1 B:Nat}{G:Nat->Prop}{A C:qgt}(hg:A.grownBy C none):Bod n1 B G G A C:=⟨hg.tape,hg.size,λk hk _ _=>hg.block k hk (by simp),λ_ h=>.inl h⟩
structure JB(n1 E Lv Gp:Nat)(lb:Option qi2)(lc:Nat)(ws:List Int)(fE:qi8)(jt:Array qgx)(G:Nat->Prop)(W:qgt):Prop where
 en:W.heap[E]?=some (.cells #[.func (.func fE) #[] jt] 51 (0,0))
 ls:W.heap[Lv]?=some (.cells #[.slice lb ws.length lc] 29 (0,0))
 li:ZL n1 G W (.slice lb ws.length lc) ws
 gr:W.heap[Gp]?=some (.cells #[.func (.func 136) #[] #[.pointer (some ⟨E,0,none⟩),.pointer (some ⟨Lv,0,none⟩),.pointer (some ⟨Gp,0,none⟩)]] 151 (0,0))
 ge:n1<=E/\n1<=Lv/\n1<=Gp
 nf:¬ G E/\¬ G Lv/\¬ G Gp
section
variable{n1 E Lv Gp:Nat}{lb:Option qi2}{lc:Nat}{ws:List Int}{fE:qi8}{jt:Array qgx}{G G':Nat->Prop}{A C:qgt}
theorem JB.bod(h:JB n1 E Lv Gp lb lc ws fE jt G A)(hb:Bod n1 n1 G G' A C):JB n1 E Lv Gp lb lc ws fE jt G' C:=by
 have e1:=(qgu.1 h.en).1;have e2:=(qgu.1 h.ls).1;have e3:=(qgu.1 h.gr).1;exact⟨(hb.keep E e1 (.inl h.ge.1) h.nf.1).trans h.en,(hb.keep Lv e2 (.inl h.ge.2.1) h.nf.2.1).trans h.ls,h.li.bod hb,(hb.keep Gp e3 (.inl h.ge.2.2) h.nf.2.2).trans h.gr,h.ge,
  λe=>(hb.fp _ e).elim h.nf.1 (by omega),λe=>(hb.fp _ e).elim h.nf.2.1 (by omega),λe=>(hb.fp _ e).elim h.nf.2.2 (by omega)⟩
end
def qc7(ws:List Int)(done L:List (List Int)):Prop:=∃t,yp ws 0=done++(L++t)
structure Cb(n1:Nat)(ws:List Int)(fE:qi8)(jt:Array qgx)(I:List (List Int)->(Nat->Prop)->qgt->Prop):Prop where
 hI:∀s G A C,I s G A->A.grownBy C none->I s G C
 hlt:∀s G A,I s G A->∀k,G k->k<A.heap.size
 en:∀a w,(callFunc fE a).run Ya w=.ok (.enter fE a) w
 cb:∀done G W v c,I done G W->qe 0 W.heap.size W v c->(c≠[]\/v=.slice none 0 0)->c.Sublist ws->qc7 ws done [c] ->
  qhx Ya fE (#[v]++jt) W λe W'=>e=.returned (.bool false)/\∃G',I (done++[c]) G' W'/\Bod n1 n1 G G' W W'
def GrA(n1:Nat)(I:List (List Int)->(Nat->Prop)->qgt->Prop)(L:List (List Int))(done:List (List Int))(G:Nat->Prop)(W:qgt)(e:Ending)(W':qgt):Prop :=
 e=.returned (.bool false)/\∃G',I (done++L) G' W'/\Bod n1 n1 G G' W W'
theorem qg3{n1 E Lv Gp:Nat}{lb:Option qi2}{lc:Nat}{ws:List Int}{fE:qi8}{jt:Array qgx}{I:List (List Int)->(Nat->Prop)->qgt->Prop}(cb:Cb n1 ws fE jt I){now:List Int}{from_:Nat}{nb:Option qi2}{nc:Nat}{W:qgt}{G:Nat->Prop}{done:List (List Int)}(a6:now.Sublist (ws.take from_))(hS:JB n1 E Lv Gp lb lc ws fE jt G W)(hN:ZL n1 G W (.slice nb now.length nc) now)(hne:now≠[]\/qhw nb now.length nc=.slice none 0 0)(a7:qc7 ws done (zO ws 0 now from_))(h:I done G W) :qhx Ya 136 #[.slice nb now.length nc,.int .i64 from_,.int .i64 (0:Nat),.pointer (some ⟨E,0,none⟩),.pointer (some ⟨Lv,0,none⟩),.pointer (some ⟨Gp,0,none⟩)] W (GrA n1 I (zO ws 0 now from_) done G W):=by
 have c1:W.cell? ⟨E,0,none⟩=some (.func (.func fE) #[] jt):=q9 hS.en rfl;have b0:=cb.en;have hc:=cb.cb done G W _ now h (hN.1.mono (qhz _) (qgw _)) hne (a6.trans (qq8 _ _)) a7;have HC:=qgr hc;clear hc hS hN h hne a7;go_enter Tp.x136,Tryz.ntmps136;go_wp2_with (first | (refine(HC.out).mono ?_;rintro e w2 ⟨rfl,G2,a9,a8⟩));go_ret;exact⟨rfl,G2,a9,a8⟩
theorem Q8(w:qgt)(a6 old:Nat)(e:qh5):a6<=qkF w a6 old e:=by
 unfold qkF;simp only[Question.cut];omega
theorem q0l{w:qgt}{l:List Int}{zs:Array qgx}(hl:l.length<=1000000)(cap:Nat) :qe w.heap.size (w.drew.alloc (.cells ((l.map (qhe .i64)).toArray++zs) 3)).heap.size (w.drew.alloc (.cells ((l.map (qhe .i64)).toArray++zs) 3)) (.slice (some ⟨w.heap.size,0,none⟩) l.length cap) l:=by
 have hh:(w.drew.alloc (.cells ((l.map (qhe .i64)).toArray++zs) 3)).heap[w.heap.size]?=some (.cells ((l.map (qhe .i64)).toArray++zs) 3 (0,0)):=qgC w.drew _;refine⟨_,cap,rfl,by omega,λ_=>⟨w.heap.size,0,_,_,rfl,qgw _,?_,hh,λi hi=>?_⟩⟩
 ·exact(qgu.1 hh).1
 ·rw[qhd,qmm (by simpa using hi)];simp[qgB hi]
theorem q7C{w:qgt}{nb:Option qi2}{nc B:Nat}{now:List Int}{x:Int}(ty:qh5)(hN:qe 0 w.heap.size w (.slice nb now.length nc) now)(hx:w.cell? ⟨B,0,none⟩=some (.int .i64 x))(hl:now.length<=1000) :∃g cap w',(qlf #[29,29] ty #[.slice nb now.length now.length,.slice (some ⟨B,0,none⟩) 1 1]).run Ya w=.ok (.slice (some ⟨g,0,none⟩) (now.length+1) cap) w'/\w.heap.size<=g/\w.grownBy w' none /\qe w.heap.size w'.heap.size w' (.slice (some ⟨g,0,none⟩) (now.length+1) cap) (now++[x])/\now.length+1<=cap:=by
 obtain⟨i0,b8,b7,a8,b6⟩:=qjy Tp.info3p;have a7:∀j v,([qhe .i64 x]:List qgx)[j]?=some v->w.cell? ((⟨B,0,none⟩:qi2).add j)=some v:=λj v hj=>by
  have:j=0:=by have:=(qh0.1 hj).1;simp at this;omega
  subst this;simp at hj;subst hj;simpa[Addr.add] using hx
 have b0:(now++[x]).length=now.length+1:=by simp
 cases nb with
 | none=>
  have h0:now=[]:=by
   refine qin λhne=>?_;obtain⟨base,cap,e,_,hr⟩:=hN;cases e;obtain⟨B,o,cs,fr,e1,_⟩:=hr hne;cases e1
  subst h0;have hr:=run_append_nil (P:=Ya) w 29 ty 3 i0 _ Tp.und29' b8 b7 ⟨B,0,none⟩ 1 1 [qhe .i64 x] (by rw[a8];rfl) a7 (by omega) (by omega) (by rw[b6];omega);have:=q0l (w:=w) (l:=[x]) (zs:=qjd (qhe .i64 0).cells (qkF w 1 0 3 - 1)) (by simp) (qkF w 1 0 3);exact⟨_,_,_,hr,qgw _,(qg w none).trans (qgs _ _ none),this,Q8 _ _ _ _⟩
 | some b=>
  have a9:∀j v,(now.map (qhe .i64))[j]?=some v->w.cell? (b.add j)=some v:=λj v hj=>by
   have a6:j<now.length:=by simpa using(qh0.1 hj).1
   obtain⟨base,cap,e,_,hc⟩:=hN.cell;cases e;obtain⟨B',o,e1,_,_,_,h4⟩:=hc (by intro e;rw[e] at a6;simp at a6);cases e1;have h5:=h4 j a6;rw[qis,qgB a6] at hj;rw[qgB a6] at h5;cases hj;exact kH h5
  have hr:=run_append_grow (P:=Ya) w 29 ty 3 i0 _ Tp.und29' b8 b7 b now.length now.length (now.map (qhe .i64)) (by rw[a8];simp) a9 ⟨B,0,none⟩ 1 1 [qhe .i64 x] (by rw[a8];rfl) a7 (by omega) (by omega) (growslice_fits (by omega) (by rw[b6];omega));have:=q0l (w:=w) (l:=now++[x]) (zs:=qjd (qhe .i64 0).cells (qkF w (now.length+1) now.length 3 - (now.length+1))) (by simp;omega) (qkF w (now.length+1) now.length 3);have e:(now.map (qhe .i64)).toArray++[qhe .i64 x].toArray=((now++[x]).map (qhe .i64)).toArray:=by simp
  rw[e] at hr;rw[b0] at this;exact⟨_,_,_,hr,qgw _,(qg w none).trans (qgs _ _ none),this,Q8 _ _ _ _⟩
theorem q4E{ops:Array qiu}{o:qiu}{a:Act}{w:qgt}{K:Act->qgt->Prop}{Q:Exit->Act->qgt->Prop}{E:Prop}(a6:qhD o (qjn ops a.tmps)=true)(s x:qhF)(hop:o.op=.call { callee:=.builtin .append,args:=#[s,x],argTypes:=#[29,29] }){nb:Option qi2}{nc B:Nat}{now:List Int}{y:Int}(hs:a.eval s=.slice nb now.length now.length)(hx:a.eval x=.slice (some ⟨B,0,none⟩) 1 1)(hN:qe 0 w.heap.size w (.slice nb now.length nc) now)(hy:w.cell? ⟨B,0,none⟩=some (.int .i64 y))(hl:now.length<=1000)(h:∀g cap w',w.heap.size<=g->w.grownBy w' none->qe w.heap.size w'.heap.size w' (.slice (some ⟨g,0,none⟩) (now.length+1) cap) (now++[y])->now.length+1<=cap->K (a.put o.dst (.slice (some ⟨g,0,none⟩) (now.length+1) cap)) w') :if qhD o (qjn ops a.tmps)=true then Oper.wp Ya o a w K Q else E:=by
 rw[if_pos a6];obtain⟨g,cap,w',hr,h1,h2,h3,h4⟩:=q7C o.type hN hy hl;unfold Oper.wp qk5;simp only[hop,resolve,invoke,builtin,qiw,qnc,qix,List.map_toArray,qjr,qln,hs,hx,hr];exact h g cap w' h1 h2 h3 h4
theorem qg2{n1 E Lv Gp:Nat}{lb:Option qi2}{lc:Nat}{ws:List Int}{fE:qi8}{jt:Array qgx}{I:List (List Int)->(Nat->Prop)->qgt->Prop}(cb:Cb n1 ws fE jt I)(k5:ws.length<=1000)(m:Nat)(ih:∀(now:List Int) (from_:Nat) (nb:Option qi2) (nc:Nat) (W:qgt) (G:Nat->Prop) (done:List (List Int)),m+now.length<=ws.length->from_<=1001->now.Sublist (ws.take from_)->JB n1 E Lv Gp lb lc ws fE jt G W->ZL n1 G W (.slice nb now.length nc) now->(now≠[]\/qhw nb now.length nc=.slice none 0 0)->now.length<=nc->qc7 ws done (zO ws m now from_)->I done G W ->qhx Ya 136 #[.slice nb now.length nc,.int .i64 from_,.int .i64 m,.pointer (some ⟨E,0,none⟩),.pointer (some ⟨Lv,0,none⟩),.pointer (some ⟨Gp,0,none⟩)] W (GrA n1 I (zO ws m now from_) done G W))(now:List Int)(from_:Nat)(nb:Option qi2)(nc:Nat)(W:qgt)(G:Nat->Prop)(done:List (List Int))(k9:m+1+now.length<=ws.length)(e7:from_<=1001)(b0:now.Sublist (ws.take from_))(hS:JB n1 E Lv Gp lb lc ws fE jt G W)(hN:ZL n1 G W (.slice nb now.length nc) now)(hne:now≠[]\/qhw nb now.length nc=.slice none 0 0)(hnc:now.length<=nc)(c3:qc7 ws done (zO ws (m+1) now from_))(h:I done G W) :qhx Ya 136 #[.slice nb now.length nc,.int .i64 from_,.int .i64 ((m:Int)+1),.pointer (some ⟨E,0,none⟩),.pointer (some ⟨Lv,0,none⟩),.pointer (some ⟨Gp,0,none⟩)] W (GrA n1 I (zO ws (m+1) now from_) done G W):=by
 have l4:((m:Int)+1 == 0)=false:=by
  rw[beq_eq_false_iff_ne];omega
 have h9:=qgr ih;have HS:=qgr hS;have HN:=qgr hN;have HH:=qgr h;have d8:=qgr b0;have g9:=qgr c3;clear c3;have k6:IntKind.i64.wrap (m:Int)=(m:Int):=qhm _ (by omega);clear ih hS hN h hne b0;go_enter Tp.x136,Tryz.ntmps136;go_wp2;go_loopw [10] (λiv wr=>∃i:Nat,iv=.int .i64 i/\from_<=i/\i<=1001/\∃Gk L,zO ws (m+1) now from_=L++zO ws (m+1) now i/\I (done++L) Gk wr/\Bod n1 n1 G Gk W wr) (λiv _=>(1002 - qia iv).toNat)
 case atStart=>exact⟨from_,rfl,qgw _,e7,G,[],rfl,by simpa using HH.out,jR (qh6 _ _)⟩
 case round=>
  obtain⟨i,rfl,e8,l5,Gk,L,hL,d6,a9⟩:=hrel;have a7:=qgr (HS.out.bod a9);have h8:=qgr (HN.out.bod a9);have HL:=qgr hL;have b9:=qgr d6;have e4:=qgr a9;clear hL d6 a9;have c1:wr.cell? ⟨Lv,0,none⟩=some (.slice lb ws.length lc):=q9 a7.out.ls rfl;by_cases hlt:i<ws.length
  ·have k0:(i:Int)<(ws.length:Int):=by omega
   obtain⟨x,b6⟩:∃x,ws[i]?=some x:=⟨_,qgB hlt⟩;obtain⟨b1,l9,he,-,hc⟩:=a7.out.li.1.cell;cases he;obtain⟨LB,lo,rfl,l8,l7,l6,d7⟩:=hc (by intro e;rw[e] at hlt;simp at hlt);have hx:=d7 i hlt;rw[b6] at hx;simp only[qgD] at hx;have d0:wr.cell? ⟨Gp,0,none⟩=some (.func (.func 136) #[] #[.pointer (some ⟨E,0,none⟩),.pointer (some ⟨Lv,0,none⟩),.pointer (some ⟨Gp,0,none⟩)]):=q9 a7.out.gr rfl;have d1:=c1;have d2:=hx;have k7:IntKind.i64.wrap ((i:Int)+1)=((i+1:Nat):Int):=by rw[qhm _ (by omega)];rfl
   have hni:0<=(i:Int):=by omega
   have k8:(now.length:Int)<=(nc:Int):=by omega
   have b8:=qgr b6;clear hc d7 hx b6;go_upto_region 6 with(fail);refine qU 17 (λw'=>w'.cell? ⟨Gp,0,none⟩=some (.func (.func 136) #[] #[.pointer (some ⟨E,0,none⟩),.pointer (some ⟨Lv,0,none⟩),.pointer (some ⟨Gp,0,none⟩)])/\w'.cell? ⟨Lv,0,none⟩=some (.slice (some ⟨LB,lo,none⟩) ws.length lc)/\w'.cell? ⟨LB,lo+i,none⟩=some (.int .i64 x)) (by kernel_rfl) (by kernel_rfl) ⟨d0,d1,d2⟩ (λa6=>?_);simp only[qh1,qh7,qhj,qir,qhd,qhr,qhs,qi1,qhn,qha];refine tk 0 (h:=tk 1 (h:=tk 2 (h:=tk 3 (h:=tk 4 (h:=tk 5 (h:=tk 6 (h:=tk 7 (h:=tk 8 (h:=tk 9 (h:=tk 10 (h:=tk 13 (h:=tk 14 (h:=tk 15 (h:=tk 16 (h:=?_)))))))))))))));try go_frame
   refine rdy [11] ?_;refine cns 11 (λK hK=>?_) ?_
   ·skip;go_simp;refine hK.out _ _ (by first | exact s5 | exact a6 | exact⟨(qgs _ _ none).cell a6.1 (by simp),(qgs _ _ none).cell a6.2.1 (by simp),(qgs _ _ none).cell a6.2.2 (by simp)⟩) (λa6=>?_);clear hK K;try go_frame
    refine rdy [12] ?_;refine cns 12 (λK hK=>?_) ?_
    ·skip;refine q4E rfl (.tmp 29) (.tmp 34) rfl (nc:=nc) (B:=wr.heap.size) (y:=x) (by rfl) (by rfl) (((h8.out.1.kept ((qg wr none).trans (qgs wr.drew (.cells #[.int .i64 x] 3) none)) (by simp)).mono (qhz _) ((qg wr none).trans (qgs wr.drew (.cells #[.int .i64 x] 3) none)).size)) (kE wr.drew _ _ _) (by omega) (λg cap w' q1 q2 q3 q5=>?_);have a8:=qgr (((qg wr none).trans (qgs wr.drew (.cells #[.int .i64 x] 3) none)).trans q2);have g7:=qgr q3;have g8:=qgr q1;have g6:=qgr q5;have s5:=qhb (a8.out.cell d0 (by simp)) (qhb (a8.out.cell d1 (by simp)) (a8.out.cell d2 (by simp)));clear q1 q2 q3 q5;refine hK.out _ _ (by first | exact s5 | exact a6 | exact⟨(qgs _ _ none).cell a6.1 (by simp),(qgs _ _ none).cell a6.2.1 (by simp),(qgs _ _ none).cell a6.2.2 (by simp)⟩) (λa6=>?_);clear hK K;try go_frame
     refine⟨by kernel_rfl,?_⟩;simp only[qhA,qio];clear a6 s5;have e6:n1<=wr.heap.size:=qqa (Nat.lt_of_le_of_lt a7.out.ge.1 (qgu.1 a7.out.en).1);have c8:(wr.drew.alloc (.cells #[.int .i64 x] 3)).heap.size=wr.heap.size+1:=by rw[qgF];rfl
     have e5:wr.heap.size<=g:=by have h1:=g8.out;have h2:((wr.alloc (.cells #[.int .i64 x] 3)).drew).heap.size=wr.heap.size+1:=(by rw[World.size_drew,qgF]);omega
     have hbg:=a7.out.bod (jR a8.out);have d5:=cb.hI _ _ _ _ b9.out a8.out;have c9:ZL n1 Gk w' (.slice (some ⟨g,0,none⟩) (now.length+1) cap) (now++[x]):=by
      refine⟨g7.out.mono (qgE e6 (qqa (by rw[<- Nat.add_one_le_iff];exact qkl c8.symm))) (qgw _),λB o n c e _ hg=>?_⟩;cases e;have:=cb.hlt _ _ _ b9.out _ hg;omega
     have b7:=h9.out (now++[x]) (i+1) (some ⟨g,0,none⟩) cap w' Gk (done++L) (by simp;omega) (by omega) (by
      rw[qi7,b8.out];exact List.Sublist.append (d8.out.trans (List.take_sublist_take_left e8)) (by simp)) hbg (by simpa using c9) (.inl (by simp)) (by simpa using g6.out) (by
      obtain⟨t,ht⟩:=g9.out;rw[HL.out,Z3 hlt,b8.out] at ht;exact⟨_,by rw[ht];simp only[qjp];rfl⟩) d5
     rw[qih,qng] at b7;have d9:=qgr b7;clear b7 c9 d5 hbg c8 e5;go_wp2_with (first | (go_at_call 136;refine(d9.out).mono ?_;rintro e w6 ⟨rfl,G6,g5,e9⟩));go_roundw
     case rel=>
      refine⟨i+1,by simp,by omega,by omega,G6,L++zO ws m (now++[x]) (i+1),?_,by rw[<- qjp];exact g5,e4.out.trans ((jR a8.out).trans e9)⟩;rw[HL.out,Z3 hlt,b8.out,qjp];rfl
     case measure=>simp[qia];omega
    exact qp.nil
   exact qp.nil
  ·have hni:¬ (i:Int)<(ws.length:Int):=by omega
   go_wp2;go_ret;exact⟨rfl,Gk,by rw[HL.out,q0y (by omega),List.append_nil];exact b9.out,e4.out⟩
theorem qe0{n1 E Lv Gp:Nat}{lb:Option qi2}{lc:Nat}{ws:List Int}{fE:qi8}{jt:Array qgx}{I:List (List Int)->(Nat->Prop)->qgt->Prop}(cb:Cb n1 ws fE jt I)(a6:ws.length<=1000) :∀(m:Nat) (now:List Int) (from_:Nat) (nb:Option qi2) (nc:Nat) (W:qgt) (G:Nat->Prop) (done:List (List Int)),m+now.length<=ws.length->from_<=1001->now.Sublist (ws.take from_)->JB n1 E Lv Gp lb lc ws fE jt G W->ZL n1 G W (.slice nb now.length nc) now->(now≠[]\/qhw nb now.length nc=.slice none 0 0)->now.length<=nc->qc7 ws done (zO ws m now from_)->I done G W ->qhx Ya 136 #[.slice nb now.length nc,.int .i64 from_,.int .i64 m,.pointer (some ⟨E,0,none⟩),.pointer (some ⟨Lv,0,none⟩),.pointer (some ⟨Gp,0,none⟩)] W (GrA n1 I (zO ws m now from_) done G W)
 | 0,now,from_,nb,nc,W,G,done,_,_,h1,h2,h3,h4,_,h6,h5=>qg3 cb h1 h2 h3 h4 h6 h5
 | m+1,now,from_,nb,nc,W,G,done,h0,hf,h1,h2,h3,h4,h6,h7,h5=>by
  have:=qg2 cb a6 m (qe0 cb a6 m) now from_ nb nc W G done h0 hf h1 h2 h3 h4 h6 h7 h5
  rwa [show((m:Int)+1)=((m+1:Nat):Int) by omega] at this
end
section
open Go.RowKit Go.Shelf
attribute [local go_sem] Oper.semAt_some
def QR{Y:Type}(f:Nat->Y)(k:Nat):List Y:=(qhl k).map f
theorem KR{Y:Type}(f:Nat->Y)(k:Nat):QR f (k+1)=QR f k++[f k]:=by simp[QR,qkG]
theorem q2g{Y:Type}(f:Nat->Y)(k:Nat):(QR f k).length=k:=by simp[QR]
theorem q93(zs:List Int):QR (λj=>zs[j]?.getD 0) zs.length=zs:=by
 apply List.ext_getElem
 ·simp[QR]
 ·intro i h1 h2;simp[QR,h2]
theorem q7m(zs:List Int){k:Nat}(hk:k<=zs.length):QR (λj=>zs[j]?.getD 0) k=zs.take k:=by
 apply List.ext_getElem
 ·simp[QR,hk]
 ·intro i h1 h2;have:i<zs.length:=by simp[QR] at h1;omega
  simp[QR,this]
theorem q4y(F:Fence)(n:Nat)(h7:F.fn 165)(hro:F.round=none)(hn:1<=n)(l Bs n₀ b off len cap:Nat)(zs:List Int)(a9:len*8<=140737488351232)(hb:b<n₀)(J Jx:List Int->qgt->Prop)(hY:∀pre x W,J pre W->pre.length<len->YieldAt F (n - 1) Ya l #[.int .i64 x] W λe W' =>(e=.returned (.bool true)/\J (pre++[x]) W'/\Below n₀ W W')\/(e=.returned (.bool false)/\Jx (pre++[x]) W'))(W:qgt)(b9:W.cell? ⟨Bs,0,none⟩=some (.slice (some ⟨b,off,none⟩) len cap))(hc:∀j,j<len->W.cell? ⟨b,off+j,none⟩=some (.int .i64 (zs[j]?.getD 0)))(h0:J [] W) :CallsIn F n Ya 165 #[.func (.yield l) #[] #[],.pointer (some ⟨Bs,0,none⟩)] W λe W'=>(∃v,e=.returned v) /\((∃ys,ys=QR (λj=>zs[j]?.getD 0) len/\J ys W')\/(∃pre,(∃k,k<=len/\pre=QR (λj=>zs[j]?.getD 0) k)/\Jx pre W')):=by
 refine qoo Tp.x165 rfl h7 ?_ hro;simp only[Tryz.ntmps165,qhk,qh1,qh7,qhj,qir,qhr,qhs,qi1,qke,qhn,qha]
 gi_wp2
 gi_loopw [7] (λi wr=>∃k:Nat,k<=len/\i=.int .i64 k/\J (QR (λj=>zs[j]?.getD 0) k) wr/\Below n₀ W wr)
  (λi _=>len - (qia i).toNat)
 case atStart=>exact⟨0,qhz _,rfl,h0,qn0 _ _⟩
 case round=>
  obtain⟨k,hk,rfl,a8,a6⟩:=hrel;have b6:k<len->wr.cell? ⟨b,off+k,none⟩=some (.int .i64 (zs[k]?.getD 0)):=λh=>(a6.cell (p:=⟨b,off+k,none⟩) hb).trans (hc k h);by_cases hlt:k<len
  ·obtain⟨fn,tmps,assign,body,hy,hR⟩:=hY _ (zs[k]?.getD 0) wr a8 (by rw[q2g];exact hlt);have b8:=b6 hlt
   gi_wp2
   refine hR.mono ?_;rintro e W3 (⟨rfl,b7,b0⟩ | ⟨rfl,a7⟩)
   ·gi_wp2
    go_roundw
    case rel=>exact⟨k+1,by omega,by simp,by rw[KR];exact b7,a6.trans b0⟩
    case measure=>simp[qia];omega
   ·gi_wp2
    refine qjD (results_none rfl _ _ _) rfl ?_;exact⟨⟨_,rfl⟩,.inr ⟨_,⟨k+1,by omega,(KR _ _).symm⟩,a7⟩⟩
  ·obtain rfl:k=len:=by omega
   gi_wp2
   go_end0;exact⟨⟨_,rfl⟩,.inl ⟨_,rfl,a8⟩⟩
theorem q1a(F:Fence)(n:Nat)(h7:F.fn 165)(hro:F.round=none)(l Bs:Nat)(J:List Int->qgt->Prop)(W:qgt)(c:Option qi2)(k:Nat)(a7:W.cell? ⟨Bs,0,none⟩=some (.slice c 0 k))(h0:J [] W) :CallsIn F n Ya 165 #[.func (.yield l) #[] #[],.pointer (some ⟨Bs,0,none⟩)] W λe W'=>(∃v,e=.returned v)/\J [] W':=by
 refine qoo Tp.x165 rfl h7 ?_ hro;simp only[Tryz.ntmps165,qhk,qh1,qh7,qhj,qir,qhr,qhs,qi1,qke,qhn,qha]
 gi_wp2
 gi_loopw [7] (λi wr=>i=.int .i64 0/\J [] wr) (λ_ _=>0)
 case atStart=>exact⟨rfl,h0⟩
 case round=>
  obtain⟨rfl,a6⟩:=hrel
  gi_wp2
  go_end0;exact⟨⟨_,rfl⟩,a6⟩
theorem q19(F:Fence)(n:Nat)(h7:F.fn 165)(hro:F.round=none)(hn:1<=n)(Bs n₀:Nat)(sv:qgx)(zs:List Int)(w:qgt)(a9:Bs<w.heap.size)(hn₀:n₀<=w.heap.size)(hc:w.cell? ⟨Bs,0,none⟩=some sv)(hI:qe 0 n₀ w sv zs) :SeqStopsK F n Ya 165 #[.pointer (some ⟨Bs,0,none⟩)] (λx:Int=>#[qhe .i64 x]) (Below n₀) (λys=>ys=zs) (λpre=>pre <+: zs) zs.length w:=λl J Jx W hW _ _ hY h0=>by
 have a7:=(hW.cell (p:=⟨Bs,0,none⟩) a9).trans hc;obtain⟨base,cap,rfl,b0,hcs⟩:=hI.cell;by_cases hz:zs=[]
 ·subst hz;exact(q1a F n h7 hro l Bs J W base cap a7 h0).mono λe W' ⟨he,hj⟩=>⟨he,.inl ⟨_,rfl,hj⟩⟩
 ·obtain⟨B,o,rfl,-,hB,a8,hcell⟩:=hcs hz;have a6:∀j,j<zs.length->W.cell? ⟨B,o+j,none⟩=some (.int .i64 (zs[j]?.getD 0)):=λj hj=>(hW.cell (p:=⟨B,o+j,none⟩) a8).trans (hcell j hj);refine(q4y F n h7 hro hn l Bs n₀ B o zs.length cap zs (by omega) hB J Jx hY W a7 a6 h0).mono ?_;rintro e W' ⟨he,⟨ys,rfl,hj⟩ | ⟨pre,⟨k,hk,rfl⟩,hj⟩⟩
  ·exact⟨he,.inl ⟨_,q93 zs,hj⟩⟩
  ·exact⟨he,.inr ⟨_,by rw[q7m zs hk];exact List.take_prefix _ _,hj⟩⟩
theorem q28(F:Fence)(n:Nat)(h3:F.fn 199)(h5:F.fn 165)(hro:F.round=none)(hn:3<=n)(Bs:Nat)(sv:qgx)(xs:List Int)(w:qgt)(d5:Bs<w.heap.size)(hc:w.cell? ⟨Bs,0,none⟩=some sv)(hI:qe 0 w.heap.size w sv xs) :CallsIn F n Ya 199 #[.slice none 0 0,.func (.func 165) #[] #[.pointer (some ⟨Bs,0,none⟩)]] w λe W'=>∃v,e=.returned v/\W'.ownsRow w.heap.size 3 1 v xs.length (xs.map (qhe .i64))/\(v=.slice none 0 0↔xs=[])/\Below w.heap.size w W':=by
 have h1:1<=n:=by omega
 have d6:(xs.length:Int)<=1000000:=by obtain⟨_,_,_,h,_⟩:=hI;exact h
 obtain⟨i0,hi,c3,b9,b8⟩:=qjy Tp.info3p;refine qnG Tp.x199 rfl h3 ?_ hro;simp only[Tryz.ntmps199,qhk,qh1,qh7,qhj,qir,qhr,qhs,qi1,qke,qhn,qha]
 gi_wp2
 have bO:=Boxed.new w 29 (.slice none 0 0);have b7:Below w.heap.size w (w.alloc (.cells #[.slice none 0 0] 29)):=(qn0 _ w).alloc (qgw _) _;refine wpIn_rangeFunc_ownG hro h1 (gf:=165) (lb:=#[.pointer (some ⟨Bs,0,none⟩)]) rfl h5 (enters_of Tp.x165 (by kernel_rfl) rfl)
  (q19 F (n - 1) h5 hro (by omega) Bs w.heap.size sv xs _ (by simp;omega) (by simp) ((b7.cell (p:=⟨Bs,0,none⟩) d5).trans hc) (hI.alloc _)) belowK_t (belowK_b (by simp)) (qn0 _ _) (λ_=>rfl)
  (λpre W=>(∃v,Boxed W w.heap.size 29 v/\W.ownsRow w.heap.size 3 1 v pre.length (pre.map (qhe .i64))/\(v=.slice none 0 0↔pre=[]))/\Below w.heap.size w W)
  (λ_ _ _=>False)
  (OwnFrom.and (Own.from (holdsRow_own w.heap.size w.heap.size 29 3 1 (λpre=>pre.length) (λpre=>pre.map (qhe .i64)) (λpre v=>v=.slice none 0 0↔pre=[])) _) (ownFrom_below (qgw _) (by simp)))
  (λ_ _ _ _ _ hs _ _=>hs)
  ⟨⟨_,bO,qjg _ _ _ _,by simp⟩,b7⟩
  (λx=>{ tmps:=#[.slice none 0 0,.func (.func 165) #[] #[.pointer (some ⟨Bs,0,none⟩)],.pointer (some ⟨w.heap.size,0,none⟩),qgz,.slice none 0 0,.int .i64 x,.func (.func 165) #[] #[.pointer (some ⟨Bs,0,none⟩)],.int .i64 x,qgz,qgz,qgz,qgz,qgz],defers:=[] }) ?assign ?body ?done ?stop
 case assign=>
  intro l x W K hK
  gi_wp2
  exact hK
 case body=>
  rintro l pre x W ⟨⟨v,hv,a6,a8⟩,hB⟩ hlt;have hc:=hv.cell
  gi_wp2_with (gi_at_builtin;refine wpListIn_append_own _ rfl _ _ 29 rfl w.heap.size 3 i0 (.int .i64 0) 1 8 Tp.und29' hi c3 b9 b8 rfl (by decide) _ _ _ rfl (a6.alloc _) ⟨W.heap.size,0,none⟩ 1 1 [.int .i64 x] rfl rfl (cell_one_new _ _ _) (by simp[qjh]) (by simp[qky];omega) (by omega) (by have:=hB.size;simp;omega) ?_;intro v' w1 a7 a9 _;obtain⟨g',cap',rfl⟩:=ownsRow_succ a7;obtain⟨b0,hv2,c8,c9,b6⟩:=hv.appended (by decide) a6 hB.size (qgw _) a7 a9;have d8:=b0.cell;have d7:=b0.frozen)
  exact⟨c9.from _,b6,⟨_,hv2,by simpa using c8,by simp⟩,hB.trans b6⟩
 case done=>
  rintro D ys W hD rfl ⟨⟨v,hv,a6,a8⟩,hB⟩ hK;have hc:=hv.cell
  gi_wp2
  refine⟨by simp,.inl ⟨_,_,rfl,qnl hK,?_⟩⟩;exact⟨_,results_tmp rfl _ _ _,v,rfl,ownsRow_putObj a6 _ hK rfl,a8,hB.trans (belowK_b (w:=w) (qgw _) W D _ _ (by simp at hD;omega) hK rfl rfl)⟩
 case stop=>
  rintro D c pre W _ _ h _;exact h.elim
theorem KM(Bs:Nat)(sv:qgx)(xs:List Int)(w:qgt)(a6:Bs<w.heap.size)(hc:w.cell? ⟨Bs,0,none⟩=some sv)(hI:qe 0 w.heap.size w sv xs) :qhx Ya 199 #[.slice none 0 0,.func (.func 165) #[] #[.pointer (some ⟨Bs,0,none⟩)]] w λe W'=>∃v,e=.returned v/\W'.ownsRow w.heap.size 3 1 v xs.length (xs.map (qhe .i64))/\(v=.slice none 0 0↔xs=[])/\Below w.heap.size w W' :=
 (qjt (n:=3)).1 (q28 Fence.wide 3 trivial trivial rfl (by omega) Bs sv xs w a6 hc hI)
theorem vJ{w w':qgt}(h:Below w.heap.size w w'):w.grownBy w' none:=⟨h.os,h.tape,h.output,h.size,λk hk _=>h.block k hk⟩
theorem qal{n:Nat}{w:qgt}{v:qgx}{l:List Int}(h:w.ownsRow n 3 1 v l.length (l.map (qhe .i64)))(hl:(l.length:Int)<=1000000):∃base B c,v=.slice base l.length c/\n<=B/\QN base B w l/\(v=.slice none 0 0\/base≠none):=by
 obtain⟨h1,⟨rfl,h0⟩ | ⟨g,cap,cur,rfl,hb,hg,hc,hm,hs,ht⟩⟩:=h
 ·exact⟨none,n,0,by rw[h0],qgw _,.inr (qhv h0),.inl rfl⟩
 ·refine⟨_,g,cap,rfl,hb,.inl ⟨rfl,cur,hg,λi hi=>?_⟩,.inr (by simp)⟩;have h3:(cur.toList.take (l.length*1))[i]?=some (.int .i64 (l[i]?.getD 0)):=by
   rw[ht];simp[qgB hi]
  rw[qlF] at h3;simpa[hi] using h3
theorem QN.ints{base:Option qi2}{B c n:Nat}{w:qgt}{L:List Int}(h:QN base B w L)(hn:n<=B)(hl:(L.length:Int)<=1000000):qe n w.heap.size w (.slice base L.length c) L:=by
 rcases h with⟨rfl,cs,h1,h2⟩ | rfl
 ·exact⟨_,c,rfl,hl,λ_=>⟨B,0,cs,(0,0),rfl,hn,(qgu.1 h1).1,h1,λi hi=>by rw[qhd];exact h2 i hi⟩⟩
 ·exact⟨base,c,rfl,hl,λh=>absurd rfl h⟩
theorem q4i(Bs:Nat)(sv:qgx)(xs:List Int)(w:qgt)(a7:Bs<w.heap.size)(hc:w.cell? ⟨Bs,0,none⟩=some sv)(hI:qe 0 w.heap.size w sv xs) :qhx Ya 163 #[.func (.func 165) #[] #[.pointer (some ⟨Bs,0,none⟩)]] w λe W'=>∃v,e=.returned v/\W'.ownsRow w.heap.size 3 1 v xs.length (xs.map (qhe .i64))/\(v=.slice none 0 0↔xs=[])/\w.grownBy W' none:=by
 go_enter Tp.x163,Tryz.ntmps163;go_wp2_with (first | (go_at_call 199;refine(KM Bs sv xs w a7 hc hI).mono ?_;rintro e w2 ⟨v,rfl,hown,a6,hb⟩));go_ret;exact⟨_,rfl,hown,a6,vJ hb⟩
theorem q5e(Bs:Nat)(sv:qgx)(xs:List Int)(w:qgt)(b6:Bs<w.heap.size)(hc:w.cell? ⟨Bs,0,none⟩=some sv)(hI:qe 0 w.heap.size w sv xs)(b7:xs.length<=12) :qhx Ya 134 #[.func (.func 165) #[] #[.pointer (some ⟨Bs,0,none⟩)]] w λe W'=>∃v,e=.returned v/\qe w.heap.size W'.heap.size W' v (zM xs.length xs)/\(v=.slice none 0 0↔zM xs.length xs=[])/\w.grownBy W' none:=by
 have b0:(xs.length:Int)<=1000000:=by omega
 go_enter Tp.x134,Tryz.ntmps134;go_wp2_with (first
  | (go_at_call 163;refine(q4i Bs sv xs w b6 hc hI).mono ?_;rintro e w2 ⟨v,rfl,hown,a6,hg⟩;obtain⟨base,B,c,rfl,hB,a7,-⟩:=qal hown b0;have b8:=qgr a7;have HN:=qgr a6;have HG:=qgr hg;clear hown a7 a6 hg)
  | (go_at_call 164;refine(qfv base B c xs _ b8.out b7).mono ?_;rintro e w3 ⟨rfl,a9,a8⟩;have c3:=qgr a9;have b9:=qgr a8;clear a9 a8))
 go_ret;have h:=QN.ints (c:=c) b9.out hB (by rw[xq];omega);rw[xq] at h;refine⟨_,rfl,h,HN.out.trans ⟨λe=>by rw[e];rfl,λe=>?_⟩,HG.out.andThen c3.out (λj e=>by cases e;exact .inl hB)⟩;have:=xq xs.length xs;rw[e] at this;exact qhv this.symm
def Qg(l ws:List Int):Prop:=∀(Bs:Nat) (sv:qgx) (w:qgt),Bs<w.heap.size->w.cell? ⟨Bs,0,none⟩=some sv->qe 0 w.heap.size w sv l ->
 qhx Ya 134 #[.func (.func 165) #[] #[.pointer (some ⟨Bs,0,none⟩)]] w λe W'=>∃v,e=.returned v/\qe w.heap.size W'.heap.size W' v ws/\(v=.slice none 0 0↔ws=[])/\w.grownBy W' none
theorem q0b{l:List Int}(a6:l.length<=12):Qg l (zM l.length l):=λBs sv w h1 h2 h3=>q5e Bs sv l w h1 h2 h3 a6
theorem q7y{l:List Int}(a6:l.length<=12)(hs:∀i,i+1<l.length->l[i]?.getD 0<=l[i+1]?.getD 0):Qg l l:=by
 have:=q0b a6
 rwa [YQ hs _ (qgw _)] at this
end
section
open Go.RowKit
theorem xE{A C E:qgt}{r:Nat}(h:A.grownBy C none)(k:C.grownBy E (some r))(hr:A.heap.size<=r):A.grownBy E none:=h.andThen k (λj e=>by cases e;exact .inl hr)
theorem qft{ll ws:List Int}{b:Option qi2}{c:Nat}{fE:qi8}{jt:Array qgx}{I:List (List Int)->(Nat->Prop)->qgt->Prop}{W:qgt}(cb:Cb W.heap.size ws fE jt I)(g8:ws.length<=1000)(hS:Qg ll ws)(hI:qe 0 W.heap.size W (.slice b ll.length c) ll){G:Nat->Prop}(h0:I [] G W) :qhx Ya 82 #[.slice b ll.length c,.func (.func fE) #[] jt] W λe W'=>e=.returned (.bool false)/\∃G',I (yp ws 0) G' W':=by
 obtain⟨Lv,a6⟩:∃Lv,Lv=W.heap.size:=⟨_,rfl⟩;obtain⟨W1,a9⟩:∃W1,W1=(W.alloc (.cells #[.slice b ll.length c] 29)).alloc (.cells #[.func (.func fE) #[] jt] 51):=⟨_,rfl⟩;have hg1:W.grownBy W1 none:=by rw[a9];exact(qgs _ _ none).trans (qgs _ _ none)
 have l1:W1.heap[Lv]?=some (.cells #[.slice b ll.length c] 29 (0,0)):=by rw[a9,a6];exact qr (qgC W _)
 have e1:W1.heap[Lv+1]?=some (.cells #[.func (.func fE) #[] jt] 51 (0,0)):=by
  rw[a9];have:=qgC (W.alloc (.cells #[.slice b ll.length c] 29)) (.cells #[.func (.func fE) #[] jt] 51);rw[qgF,<- a6] at this;exact this
 have d7:W1.heap.size=Lv+2:=by rw[a9,qgF,qgF,a6]
 have c1:W1.cell? ⟨Lv,0,none⟩=some (.slice b ll.length c):=q9 l1 rfl;have z1:=qq (o:=0) l1;have d8:Lv<W1.heap.size:=by omega
 have k9:=qgr ((hI.kept hg1 (by simp)).mono (qgw _) hg1.size);have h9:=qgr a9;have b9:=qgr a6;have m6:=qgr d7;have l6:=qgr hg1;have k6:=qgr l1;have l8:=qgr e1;have HH:=qgr h0;clear a9 a6 d7 hg1 l1 e1 hI h0;go_enter Tp.x82,Tryz.ntmps82;go_upto_region 1 with(fail);rw[<- b9.out,show(W.alloc (.cells #[.slice b ll.length c] 29)).alloc (.cells #[.func (.func fE) #[] jt] 51)=W1 from h9.out.symm];go_upto_region 2 with(first
  | (go_at_call 135;refine(QQ _ _ _ _).mono ?_;rintro e w2 ⟨rfl,rfl⟩)
  | (go_at_call 134;refine(hS W1.heap.size (.slice b ll.length c) _ (by simp) (by rw[kE];rfl) ((k9.out.alloc _).mono (qgw _) (by simp))).mono ?_;rintro e w2 ⟨v,rfl,d5,c3,hg2⟩;obtain⟨lb,lc,rfl,-,-⟩:=d5.cell;have c2:=(((qgs W1 (.cells #[.slice b ll.length c] 29) none).trans hg2).cell c1 (by simp));have z2:=(((qgs W1 (.cells #[.slice b ll.length c] 29) none).trans hg2).frozen_far _ d8 (by simp)).trans z1;have k8:=qgr d5;have d6:=qgr ((qgs W1 (.cells #[.slice b ll.length c] 29) none).trans hg2);have m7:=qgr c3;clear d5 c3 hg2))
 obtain⟨W4,b7⟩:∃W4,W4=w2.setCell ⟨Lv,0,none⟩ (.slice lb ws.length lc):=⟨_,rfl⟩;rw[<- b7];have a7:=qh w2 Lv 0 (.slice lb ws.length lc);rw[<- b7] at a7;have l4:W4.heap[Lv]?=some (.cells #[.slice lb ws.length lc] 29 (0,0)):=by rw[b7,qj (blk d6.out (by simp) k6.out)];rfl
 have e4:=blk (X:=Lv+1) a7 (by simp) (blk d6.out (by simp) l8.out);have i4:=(k8.out.kept a7 (λR e=>by cases e;left;rw[qgF];omega)).mono (show W.heap.size<=_ by rw[qgF];have:=b9.out;omega) a7.size;have g4:W.grownBy W4 none:=xE (l6.out.trans d6.out) a7 (by rw[b9.out];exact qgw _);have k5:=qgr l4;have l7:=qgr e4;have g6:=qgr i4;have g7:=qgr g4;clear b7 a7 l4 e4 i4 g4 c1 z1 c2 z2;have m5:∀(a:qi2) (fn:Fn) (x y:Array qgx) (m:Mode) (w:qgt),(store a (.func fn x y) m).run Ya w=stored Ya w a (.func fn x y) m:=λa fn x y m w=>run_store _ w a _ m rfl;go_upto_region 4 with(fail);obtain⟨Gp,b8⟩:∃Gp,Gp=W4.heap.size:=⟨_,rfl⟩;obtain⟨W5,b6⟩:∃W5,W5=W4.alloc (.cells #[.func (.func 136) #[] #[.pointer (some ⟨Lv+1,0,none⟩),.pointer (some ⟨Lv,0,none⟩),.pointer (some ⟨Gp,0,none⟩)]] 151):=⟨_,rfl⟩;rw[<- b8,<- b6];have a8:W4.grownBy W5 none:=by rw[b6];exact qgs _ _ none
 have p5:W5.heap[Gp]?=some (.cells #[.func (.func 136) #[] #[.pointer (some ⟨Lv+1,0,none⟩),.pointer (some ⟨Lv,0,none⟩),.pointer (some ⟨Gp,0,none⟩)]] 151 (0,0)):=by rw[b6,b8];exact qgC _ _
 have b0:∀k,W.heap.size<=k->¬ G k:=λk hk h=>by have:=cb.hlt _ _ _ HH.out k h;omega
 have a6:=b9.out;have e8:W.heap.size<=Gp:=by rw[b8];exact g7.out.size
 have c9:JB W.heap.size (Lv+1) Lv Gp lb lc ws fE jt G W5:=by
  refine⟨blk a8 (by simp) l7.out,blk a8 (by simp) k5.out,⟨(g6.out.kept a8 (by simp)).mono (qgw _) a8.size,λB o n c' e hne hg=>?_⟩,p5,⟨by omega,by omega,e8⟩,b0 _ (by omega),b0 _ (by omega),b0 _ e8⟩;obtain⟨base,cap,e',hl,hr⟩:=g6.out;cases e';obtain⟨B',o',cs,fr,e1,e2,e3,e4,e5⟩:=hr hne;cases e;cases e1;exact b0 _ e2 hg
 have e7:=cb.hI _ _ _ _ HH.out (g7.out.trans a8);have k0:=qgr c9;have k7:=qgr e7;have hwl:IntKind.i64.wrap ((ws.length:Int)+1)=((ws.length+1:Nat):Int):=by rw[qhm _ (by omega)];rfl
 have cL:W5.cell? ⟨Lv,0,none⟩=some (.slice lb ws.length lc):=q9 c9.ls rfl;clear c9 e7 p5 a8 b6 b8 b0 a6;go_wp2;go_loopw [14] (λiv wr=>∃k:Nat,iv=.int .i64 k/\k<=ws.length+1/\∃Gk L,yp ws 0=L++yp ws k/\I L Gk wr/\Bod W.heap.size W.heap.size G Gk W5 wr) (λiv _=>(ws.length+1 - qia iv).toNat)
 case atStart=>exact⟨0,rfl,by omega,G,[],rfl,k7.out,jR (qh6 _ _)⟩
 case round=>
  obtain⟨k,rfl,hk,Gk,L,hL,e6,c8⟩:=hrel;have e9:=qgr (k0.out.bod c8);have HL:=qgr hL;have g5:=qgr e6;have l9:=qgr c8;clear hL e6 c8 cL;have c1:wr.cell? ⟨Gp,0,none⟩=some (.func (.func 136) #[] #[.pointer (some ⟨Lv+1,0,none⟩),.pointer (some ⟨Lv,0,none⟩),.pointer (some ⟨Gp,0,none⟩)]):=q9 e9.out.gr rfl;by_cases hlt:k<ws.length+1
  ·have m3:(k:Int)<(ws.length:Int)+1:=by omega
   have m4:IntKind.i64.wrap ((k:Int)+1)=((k+1:Nat):Int):=by rw[qhm _ (by omega)];rfl
   have d9:=qe0 cb g8 k [] 0 none 0 wr Gk L (by simp;omega) (by omega) (by simp) e9.out ⟨qe.nil _ _ _,λB o n c e=>by cases e⟩ (.inr rfl) (by simp) ⟨_,by rw[HL.out,ZR hlt]⟩ g5.out;have l5:=qgr d9;clear d9;go_wp2_with (first | (go_at_call 136;refine(l5.out).mono ?_;rintro e w6 ⟨rfl,G6,h8,g9⟩));go_roundw
   case rel=>exact⟨k+1,by simp,by omega,G6,L++zO ws k [] 0,by rw[HL.out,ZR hlt,qjp],h8,l9.out.trans g9⟩
   case measure=>simp[qia];omega
  ·obtain rfl:k=ws.length+1:=by omega
   go_wp2;go_ret;exact⟨rfl,Gk,by rw[HL.out,q2w (qgw _),List.append_nil];exact g5.out⟩
end
section
open Go.RowKit
def vN(x b:List Int):Bool:=decide (zq x b<0)
theorem q0F(la ha lb hb:Nat)(va vb:qgx)(a b:List Int)(w:qgt)(hA:qe la ha w va a)(hB:qe lb hb w vb b) :qhx Ya 99 #[va,vb] w λe w'=>e=.returned (.bool (vN a b))/\w=w':=Jv la ha lb hb va vb a b w hA hB
def qgd(L:Nat)(s:Bool)(bv xv:qgx)(a6 x:List Int)(w w':qgt):Prop :=
 w.grownBy w' (some L)/\w'.heap[L]?=some (.cells #[.func (.func 99) #[] #[],if s=true/\vN x a6=false then bv else xv,.bool true] 108 (0,0))
theorem q7p(L:Nat)(s:Bool)(bv xv:qgx)(a6 x:List Int)(w:qgt)(hL:w.heap[L]?=some (.cells #[.func (.func 99) #[] #[],bv,.bool s] 108 (0,0)))(hb:qe 0 w.heap.size w bv a6)(hx:qe 0 w.heap.size w xv x) :qhx Ya 103 #[.pointer (some ⟨L,0,none⟩),xv] w λe w'=>e=.returned (.tuple #[])/\qgd L s bv xv a6 x w w':=by
 obtain⟨bb,bc,rfl,-,-⟩:=hb.cell;obtain⟨xb,xc,rfl,-,-⟩:=hx.cell;have c0:w.cell? ⟨L,0,none⟩=some (.func (.func 99) #[] #[]):=q9 hL rfl;have c1:w.cell? ⟨L,1,none⟩=some (.slice bb a6.length bc):=q9 hL rfl;have c2:w.cell? ⟨L,2,none⟩=some (.bool s):=q9 hL rfl;have z1:w.frozen? ⟨L,1,none⟩=false:=qq hL;have z2:w.frozen? ⟨L,2,none⟩=false:=qq hL;have HL:=qgr hL;have HB:=qgr hb;have HX:=qgr hx;have SC:=qgr (qhb c0 (qhb c1 c2));clear hL hb hx;go_enter Tp.x103,Tryz.ntmps103;cases s with
 | false=>
  go_wp2_with (fail);go_quiet (fail);go_wp2;go_end0;refine⟨rfl,((qk _ _ _).trans (qh _ _ _ _)).trans (qh _ _ _ _),?_⟩;rw[if_neg (by simp ),qj (show((w.drewN nq).setCell ⟨L,1,none⟩ (.slice xb x.length xc)).heap[L]?=some (.cells #[.func (.func 99) #[] #[],.slice xb x.length xc,.bool false] 108 (0,0)) by rw[qj (show(w.drewN nq).heap[L]?=_ from HL.out)];rfl)];rfl
 | true=>
  cases hl:vN x a6 with
  | true=>
   have a7:=qgr hl;clear hl;go_wp2_with (fail);go_quiet (first | (go_at_call 99;refine qiG ((q0F 0 w.heap.size 0 w.heap.size _ _ x a6 _ (HX.out.kept (qk _ _ none) (by simp)) (HB.out.kept (qk _ _ none) (by simp))).mono (λe w5 h=>⟨by rw[h.1,a7.out],h.2.symm⟩))));go_wp2;go_end0;refine⟨rfl,((qk _ _ _).trans (qh _ _ _ _)).trans (qh _ _ _ _),?_⟩;rw[if_neg (by simp[a7.out]),qj (show((w.drewN nq).setCell ⟨L,1,none⟩ (.slice xb x.length xc)).heap[L]?=some (.cells #[.func (.func 99) #[] #[],.slice xb x.length xc,.bool true] 108 (0,0)) by rw[qj (show(w.drewN nq).heap[L]?=_ from HL.out)];rfl)];rfl
  | false=>
   have a7:=qgr hl;clear hl;go_wp2_with (fail);go_quiet (first | (go_at_call 99;refine qiG ((q0F 0 w.heap.size 0 w.heap.size _ _ x a6 _ (HX.out.kept (qk _ _ none) (by simp)) (HB.out.kept (qk _ _ none) (by simp))).mono (λe w5 h=>⟨by rw[h.1,a7.out],h.2.symm⟩))));go_wp2;go_end0;refine⟨rfl,(qk _ _ _),?_⟩;rw[if_pos ⟨rfl,a7.out⟩];exact HL.out
def YT(l:List Int)(x:Int):Int:=if x∈l then((l.takeWhile λy=>y != x).length:Int) else -1
theorem qfr{l:List Int}{x:Int}{k:Nat}(h:l[k]?=some x)(hb:∀i,i<k->l[i]?≠some x):(l.takeWhile λy=>y != x).length=k:=by
 induction l generalizing k with
 | nil=>simp at h
 | cons a t ih=>
  cases k with
  | zero=>simp at h;subst h;simp
  | succ k=>
   have ha:a≠x:=λe=>hb 0 (by omega) (by simp[e]);rw[qmn (by simpa using ha),qh1,ih (by simpa using h) (λi hi e=>hb (i+1) (by omega) (by simpa using e))]
theorem qb5(b:Option qi2)(c:Nat)(l:List Int)(x:Int)(w:qgt)(b7:(l.length:Int)<=1000000)(hc:l≠[]->∃B o,b=some ⟨B,o,none⟩/\∀i,i<l.length->w.cell? ⟨B,o+i,none⟩=some (.int .i64 (l[i]?.getD 0))):qhx Ya 147 #[.slice b l.length c,.int .i64 x] w λe w'=>e=.returned (.int .i64 (YT l x))/\w=w':=by
 have HC:=qgr hc;clear hc;go_enter Tp.x147,Tryz.ntmps147;go_wp2;go_loopw [8] (λiv wr=>∃k:Nat,iv=.int .i64 k/\k<=l.length/\(∀i,i<k->l[i]?≠some x)/\w=wr) (λiv _=>(l.length - qia iv).toNat)
 case atStart=>exact⟨0,rfl,by omega,λi hi=>by omega,rfl⟩
 case round=>
  obtain⟨k,rfl,hk,a7,rfl⟩:=hrel;have a6:=qgr a7;clear a7;by_cases hlt:k<l.length
  ·obtain⟨B,o,rfl,a8⟩:=HC.out (by intro e;rw[e] at hlt;simp at hlt);obtain⟨y,hy⟩:∃y,l[k]?=some y:=⟨_,qgB hlt⟩;have x1:=a8 k hlt;rw[hy] at x1;simp only[qgD] at x1;have b0:(k:Int)<(l.length:Int):=by omega
   have HY:=qgr hy;clear a8 hy;by_cases hxy:x=y
   ·subst hxy;have hv:YT l x=(k:Int):=by
     unfold YT;rw[if_pos (qhc HY.out),qfr HY.out a6.out]
    have HV:=qgr hv;clear hv;go_wp2;go_ret;exact⟨by rw[HV.out];rfl,by first | rfl | trivial⟩
   ·have b6:(x == y)=false:=by simpa using hxy
    have a9:=qgr hxy;clear hxy;go_wp2;go_roundw
    case rel=>
     refine⟨k+1,by simp,by omega,λi hi e=>?_,by first | rfl | trivial⟩;by_cases h:i=k
     ·subst h;rw[HY.out] at e;cases e;exact a9.out rfl
     ·exact a6.out i (by omega) e
    case measure=>simp[qia];omega
  ·obtain rfl:k=l.length:=by omega
   have hv:YT l x=-1:=by
    unfold YT;rw[if_neg];intro hm;obtain⟨i,hi⟩:=qnx hm;exact a6.out i (qh0.1 hi).1 hi
   have HV:=qgr hv;clear hv;go_wp2;go_ret;exact⟨by rw[HV.out];rfl,by first | rfl | trivial⟩
attribute [local go_sem] q62 q1E
theorem qbw(B o cap:Nat)(ty:qh5)(cs:Array qgx)(fr:Nat × Nat)(l:List Int)(w:qgt)(h3:w.heap[B]?=some (.cells cs ty fr))(h4:∀i,i<l.length->cs[o+i]?=some (.int .i64 (l[i]?.getD 0)))(hl:l.length<=1000) :qhx Ya 84 #[.slice (some ⟨B,o,none⟩) l.length cap] w λe w'=>∃v',e=.returned v'/\w.grownBy w' none/\qe w.heap.size w'.heap.size w' v' l:=by
 obtain⟨i0,b8,b6,b0,a9⟩:=qjy Tp.info3p;by_cases h0:l=[]
 ·subst h0;show qhx Ya 84 #[.slice (some ⟨B,o,none⟩) 0 cap] w _;clear h3 h4 hl;go_enter Tp.x84,qoF;go_wp2_with (first
   | (at_builtin;go_must (refine wpList_append_own _ rfl _ _ 29 rfl w.heap.size 3 i0 _ 1 8 Tp.und29' b8 b6 b0 a9 rfl (by decide) (.slice (some ⟨w.heap.size,0,none⟩) 0 0) 0 [] rfl ⟨rfl,.inr ⟨_,0,#[],rfl,qgw _,qgC _ _,qgw _,by decide,rfl,rfl⟩⟩ ⟨B,o,none⟩ 0 cap [] rfl rfl (by intro j u hu;simp at hu) (by intro u hu;simp at hu) (by decide) (by omega) (by simp) ?_);intro v' w7 a8 a6 _;have HO:=qgr a8;have HG:=qgr a6;clear a8 a6))
  go_ret;refine⟨_,rfl,(qgs _ _ none).andThen HG.out (λj e=>.inl ?_),YS (n:=0) (by simpa using HO.out) (by simp) (qgw _)⟩;simp[qhp] at e;omega
 have b7:0<l.length:=qkf.2 h0;have HN:=qgr (show ∀j u,(l.map (qhe .i64))[j]?=some u->cs[o+j]?=some u from λj u hu=>by
  rw[qis] at hu;cases hj:l[j]? with
  | none=>rw[hj] at hu;cases hu
  | some x=>
   rw[hj] at hu;cases hu;have b9:=(qh0.1 hj).1;have:=h4 j b9;rw[hj] at this;exact this)
 have HB:=qgr h3;clear h4 h3;go_enter Tp.x84,qoF;go_wp2_with (first
  | (at_builtin;go_must (refine qoc _ (by rfl) _ _ _ (by rfl) w.heap.size 3 i0 _ 1 8 Tp.und29' b8 b6 b0 a9 rfl (by omega) (.slice (some ⟨w.heap.size,0,none⟩) 0 0) 0 [] (by rfl) ⟨by simp,.inr ⟨w.heap.size,0,#[],rfl,by omega,qgC w _,by omega,by unfold qky;omega,by simp,by simp⟩⟩ ⟨B,o,none⟩ l.length cap (l.map (qhe .i64)) (by rfl) (by simp) (λj u hu=>kH (q9 (qr HB.out) (HN.out j u hu))) (by intro u hu;simp at hu;obtain⟨x,_,rfl⟩:=hu;rfl) b7 (by unfold qky;omega) (by omega) (by simp) (w.heap.size+1) (by simp) ?_);intro gg c3 w5 a7 a6 c8 hgl;have HG:=qgr a6;have HO:=qgr a7;clear a6 a7))
 go_ret;refine⟨_,rfl,(qgs _ _ none).andThen HG.out (λj e=>.inl ?_),YS (n:=0+l.length) (by simpa using HO.out) (by omega) (qgw _)⟩;simp[qhp] at e;omega
def zc(s:List Int):List Int:=s.takeWhile λy=>y != -1
theorem q8b{s:List Int}(h:s.length=5):∃a b c d e,s=[a,b,c,d,e]:=by
 rcases s with _ | ⟨a0,_ | ⟨a1,_ | ⟨a2,_ | ⟨a3,_ | ⟨a4,_ | ⟨a5,t⟩⟩⟩⟩⟩⟩<;>simp at h;exact⟨a0,a1,a2,a3,a4,rfl⟩
theorem q6l(s:List Int)(p:Int->Bool):s.take (s.takeWhile p).length=s.takeWhile p:=by
 induction s with
 | nil=>rfl
 | cons a t ih=>
  by_cases h:p a=true
  ·rw[qmn h,qh1,List.take_succ_cons,ih]
  ·rw[List.takeWhile_cons_of_neg h];rfl
theorem KT(s:List Int)(p:Int->Bool):(s.takeWhile p).length<=s.length:=by
 rw[<- q6l s p,qk3];omega
theorem qee{s:List Int}{x:Int}(h:x∉s):s.takeWhile (λy=>y != x)=s:=by
 induction s with
 | nil=>rfl
 | cons a t ih=>
  rw[qmn (by simp at h ⊢;exact λe=>h.1 e.symm),ih (by simp at h;exact h.2)]
theorem qaE(s:List Int)(h5:s.length=5)(w:qgt):qhx Ya 113 #[A5 s] w λe w'=>∃v,e=.returned v/\w.grownBy w' none/\qe w.heap.size w'.heap.size w' v (zc s):=by
 obtain⟨Bx,b6⟩:∃Bx,Bx=w.heap.size:=⟨_,rfl⟩;obtain⟨w1,a6⟩:∃w1,w1=w.alloc (.cells (s.map (qhe .i64)).toArray 118):=⟨_,rfl⟩;have hg1:w.grownBy w1 none:=by rw[a6];exact qgs _ _ none
 have hb1:w1.heap[Bx]?=some (.cells (s.map (qhe .i64)).toArray 118 (0,0)):=by rw[a6,b6];exact qgC _ _
 have hcl:∀i,i<s.length->(s.map (qhe .i64)).toArray[i]?=some (.int .i64 (s[i]?.getD 0)):=λi hi=>by simp[hi]
 have b8:∀w2,w1.grownBy w2 none->qhx Ya 147 #[.slice (some ⟨Bx,0,none⟩) 5 5,.int .i64 (-1)] w2 λe w'=>e=.returned (.int .i64 (YT s (-1)))/\w2=w':=λw2 h=>by
  have:=qb5 (some ⟨Bx,0,none⟩) 5 s (-1) w2 (by omega) (λ_=>⟨Bx,0,rfl,λi hi=>q9 (blk h (by simp) hb1) (by rw[qhd];exact hcl i hi)⟩)
  rwa [h5] at this
 obtain⟨n,hn⟩:∃n,n=(zc s).length:=⟨_,rfl⟩;have hns:n<=5:=by rw[hn];have:=KT s (λy=>y != -1);unfold zc;omega
 have b9:∀w2,w1.grownBy w2 none->qhx Ya 84 #[.slice (some ⟨Bx,0,none⟩) n 5] w2 λe w'=>∃v',e=.returned v'/\w2.grownBy w' none/\qe w2.heap.size w'.heap.size w' v' (zc s):=λw2 h=>by
  rw[hn];refine qbw Bx 0 5 118 _ (0,0) (zc s) w2 (blk h (by simp) hb1) (λi hi=>?_) (by omega);rw[qhd,hcl i (by omega)];unfold zc;rw[<- q6l s (λy=>y != -1),qjc (by unfold zc at hi;exact hi)]
 have a8:(YT s (-1)=(n:Int)/\(-1:Int)∈s)\/(YT s (-1)=-1/\n=5):=by
  by_cases hm:(-1:Int)∈s
  ·left;refine⟨?_,hm⟩;unfold YT;rw[if_pos hm,hn];rfl
  ·right;refine⟨by unfold YT;rw[if_neg hm],?_⟩;rw[hn];unfold zc;rw[qee hm,h5]
 have b7:=qgr b8;have c8:=qgr b9;have a7:=qgr hg1;have c3:=qgr a6;have c9:=qgr b6;clear b8 b9 hg1 hb1 a6 b6 hcl hn;generalize YT s (-1)=ix at a8 b7;have hA:A5 s=.agg (s.map (qhe .i64)).toArray:=rfl;rw[hA];clear hA;obtain⟨a0,a1,a2,a3,a4,rfl⟩:=q8b h5;rcases a8 with⟨rfl,-⟩ | ⟨rfl,rfl⟩
 ·go_enter Tp.x113,Tryz.ntmps113;go_upto_region 1 with(fail);rw[<- c9.out,show w.alloc (.cells #[.int .i64 a0,.int .i64 a1,.int .i64 a2,.int .i64 a3,.int .i64 a4] 118)=w1 from c3.out.symm];have hni:(0:Int)<=(n:Int):=by omega
  have d5:(n:Int)<=5:=by omega
  go_wp2_with (first
   | (go_at_call 147;refine(b7.out _ (qh6 _ _)).mono ?_;rintro e w2 ⟨rfl,rfl⟩)
   | (go_at_call 84;refine(c8.out _ (qh6 _ _)).mono ?_;rintro e w3 ⟨v,rfl,a9,b0⟩))
  go_ret;exact⟨_,rfl,a7.out.trans a9,b0.mono a7.out.size (qgw _)⟩
 ·go_enter Tp.x113,Tryz.ntmps113;go_upto_region 1 with(fail);rw[<- c9.out,show w.alloc (.cells #[.int .i64 a0,.int .i64 a1,.int .i64 a2,.int .i64 a3,.int .i64 a4] 118)=w1 from c3.out.symm];go_wp2_with (first
   | (go_at_call 147;refine(b7.out _ (qh6 _ _)).mono ?_;rintro e w2 ⟨rfl,rfl⟩)
   | (go_at_call 84;refine(c8.out _ (qh6 _ _)).mono ?_;rintro e w3 ⟨v,rfl,a9,b0⟩))
  go_ret;exact⟨_,rfl,a7.out.trans a9,b0.mono a7.out.size (qgw _)⟩
def qT(l:List Int):List Int:=l++qqB (5 - l.length) (-1)
theorem vT{l:List Int}(h:l.length<=5):(qT l).length=5:=by simp[qT];omega
theorem Jd(lo hi:Nat)(v:qgx)(l:List Int)(w:qgt)(hI:qe lo hi w v l)(hl:l.length<=5):qhx Ya 112 #[v] w λe w'=>e=.returned (A5 (qT l))/\w.grownBy w' none:=by
 obtain⟨b,c,rfl,e9,hc⟩:=hI.cell;have HC:=qgr hc;have hsz:(Ya.info? 3).map (·.size)=some 1:=by kernel_rfl
 obtain⟨R,hR⟩:∃R,R=w.heap.size:=⟨_,rfl⟩;clear hc hI;go_enter Tp.x112,Tryz.ntmps112;go_upto_region 2 with(fail);obtain⟨w1,b0⟩:∃w1,w1=w.alloc (.cells #[.int .i64 0,.int .i64 0,.int .i64 0,.int .i64 0,.int .i64 0] 118):=⟨_,rfl⟩;obtain⟨w2,a9⟩:∃w2,w2=w1.alloc (.cells #[.int .i64 (-1),.int .i64 (-1),.int .i64 (-1),.int .i64 (-1),.int .i64 (-1)] 118):=⟨_,rfl⟩;rw[<- hR,show(w.alloc (.cells #[.int .i64 0,.int .i64 0,.int .i64 0,.int .i64 0,.int .i64 0] 118)).alloc (.cells #[.int .i64 (-1),.int .i64 (-1),.int .i64 (-1),.int .i64 (-1),.int .i64 (-1)] 118)=w2 by rw[a9,b0]];have b9:w1.heap.size=R+1:=by rw[b0,qgF,hR]
 have c9:w2.heap.size=R+2:=by rw[a9,qgF,b9]
 have hg1:w.grownBy w1 none:=by rw[b0];exact qgs _ _ none
 have hg2:w1.grownBy w2 none:=by rw[a9];exact qgs _ _ none
 have d6:w1.heap[R]?=some (.cells #[.int .i64 0,.int .i64 0,.int .i64 0,.int .i64 0,.int .i64 0] 118 (0,0)):=by rw[b0,hR];exact qgC _ _
 have d7:w2.heap[R+1]?=some (.cells ([.int .i64 (-1),.int .i64 (-1),.int .i64 (-1),.int .i64 (-1),.int .i64 (-1)]:List qgx).toArray 118 (0,0)):=by rw[a9,<- b9];exact qgC _ _
 have d5:=blk hg2 (by simp) d6;have c8:=qgr d7;have d8:=qgr d5;have a8:=qgr (hg1.trans hg2);have g7:=qgr c9;have HR:=qgr hR;clear b0 a9 b9 hg1 hg2 d6 d7 d5 c9 hR;have d9:=d8.out;obtain⟨w4,g5,a7,b6⟩:∃w4,(qoi #[29,29] 3 #[.slice (some ⟨R+1,0,none⟩) 5 5,.slice b l.length c]).run Ya w2=.ok (goInt l.length) w4/\w4.heap[R+1]?=some (.cells ((qT l).map (qhe .i64)).toArray 118 (0,0))/\Below (R+1) w2 w4:=by
  by_cases h0:l=[]
  ·subst h0;exact⟨w2,run_copy_none (P:=Ya) w2 29 29 3 3 _ _ 5 5 0 c Tp.und29' hsz rfl,by rw[c8.out];rfl,qn0 _ _⟩
  ·obtain⟨B,o,rfl,-,g6,-,hcell⟩:=HC.out h0;have hr:=run_copy_row (P:=Ya) w2 29 29 3 3 (R+1) 0 5 5 ⟨B,o,none⟩ l.length c _ 118 (l.map (qhe .i64)) Tp.und29' hsz c8.out (by rw[qk0];show l.length=min l.length 5;omega) (λj v hj=>by
    rw[qis] at hj;cases hx:l[j]? with
    | none=>rw[hx] at hj;cases hj
    | some x=>
     rw[hx] at hj;cases hj;have h1:=hcell j (qh0.1 hx).1;rw[hx] at h1;exact kH (a8.out.cell h1 (by simp))) (by simp;omega) (by intro u hu;simp at hu;obtain⟨x,_,rfl⟩:=hu;rfl)
   rw[qk0] at hr;refine⟨_,hr,?_,below_setRow (qn0 _ _) (qgw _) _⟩;rw[setRow_heap w2 (R+1) _ _ 118 _ c8.out];unfold qT;have:∀k,k<=5->([.int .i64 (-1),.int .i64 (-1),.int .i64 (-1),.int .i64 (-1),.int .i64 (-1)]:List qgx).drop k=(qqB (5 - k) (-1)).map (qhe .i64):=by
    intro k hk;obtain rfl | rfl | rfl | rfl | rfl | rfl:k=0\/k=1\/k=2\/k=3\/k=4\/k=5:=by omega
    all_goals rfl
   simp[this _ hl]
 obtain⟨a0,a1,a2,a3,a4,e5⟩:=q8b (vT hl);rw[e5] at a7;have E5:=qgr e5;have a6:=(b6.block R (by omega)).trans d8.out;have c0:=q9 a7 (o:=0) rfl;have c1:=q9 a7 (o:=1) rfl;have c2:=q9 a7 (o:=2) rfl;have c3:=q9 a7 (o:=3) rfl;have c4:=q9 a7 (o:=4) rfl;have d0:=q9 a6 (o:=0) rfl;have d1:=q9 a6 (o:=1) rfl;have d2:=q9 a6 (o:=2) rfl;have d3:=q9 a6 (o:=3) rfl;have d4:=q9 a6 (o:=4) rfl;have z0:=qq a6 (o:=0);have z1:=qq a6 (o:=1);have z2:=qq a6 (o:=2);have z3:=qq a6 (o:=3);have z4:=qq a6 (o:=4);have e8:=qgr a6;have b7:=qgr b6;clear a6 b6 e5 d9;go_wp2;obtain⟨wf,b8⟩:∃wf,wf=((((w4.setCell ⟨R,0,none⟩ (.int .i64 a0)).setCell ⟨R,1,none⟩ (.int .i64 a1)).setCell ⟨R,2,none⟩ (.int .i64 a2)).setCell ⟨R,3,none⟩ (.int .i64 a3)).setCell ⟨R,4,none⟩ (.int .i64 a4):=⟨_,rfl⟩;rw[<- b8];have hrf:wf.heap[R]?=some (.cells #[.int .i64 a0,.int .i64 a1,.int .i64 a2,.int .i64 a3,.int .i64 a4] 118 (0,0)):=by
  rw[b8,qj (qj (qj (qj (qj e8.out))))];rfl
 have e7:w.grownBy w4 none:=⟨b7.out.os.trans a8.out.os,b7.out.tape.trans a8.out.tape,b7.out.output.trans a8.out.output,qgE a8.out.size b7.out.size,λk hk _=>(b7.out.block k (by have:=HR.out;omega)).trans (a8.out.block k hk (by simp))⟩;have e6:w.grownBy wf none:=by
  rw[b8];have h:=HR.out;exact xE (xE (xE (xE (xE e7 (qh _ _ _ _) (by omega)) (qh _ _ _ _) (by omega)) (qh _ _ _ _) (by omega)) (qh _ _ _ _) (by omega)) (qh _ _ _ _) (by omega)
 have e0:=q9 hrf (o:=0) rfl;have e1:=q9 hrf (o:=1) rfl;have e2:=q9 hrf (o:=2) rfl;have e3:=q9 hrf (o:=3) rfl;have e4:=q9 hrf (o:=4) rfl;refine qjD (v:=A5 (qT l)) ?_ rfl ⟨rfl,e6⟩;rw[E5.out];simp[qk1,Tryz.results112,go_sem,qhu,hrf,A5]
end
section
open Go.RowKit
structure vQ where
 Bl:Nat
 By:Nat
 Bn:Nat
 Bu:Nat
 Bg:Nat
 Bp:Nat
 n1:Nat
 l:Nat
 ws:List Int
 lb:Option qi2
 lc:Nat
 J:List (List Int × qgx)->(Nat->Prop)->qgt->Prop
 Jx:List (List Int × qgx)->(Nat->Prop)->qgt->Prop
 T:List (List Int)
def Pfx(X:vQ)(pre:List (List Int × qgx))(L:List (List Int)):Prop:=∃t,X.T=pre.map ql2++(L++t)
def xpI(x:List Int × qgx)(A:qgt):Prop:=qe 0 A.heap.size A x.2 x.1
def xpO(ws:List Int)(x:List Int × qgx)(A:qgt):Prop:=xpI x A/\x.1.length=ws.length/\x.1.Nodup/\(∀y∈x.1,y∈ws)/\(x.1≠[]\/x.2=.slice none 0 0)
structure JC(X:vQ):Prop where
 hlt:∀s G A,X.J s G A->∀k,G k->k<A.heap.size
 bl:X.Bl<X.n1
 b1:X.n1<=X.By
 b2:X.By<X.Bn
 b3:X.Bn<X.Bu
 b4:X.Bu<X.Bg
 b5:X.Bg<X.Bp
 hJ:∀s G A C,X.J s G A->Stp X.n1 X.Bl G A C->X.J s G C
 hJx:∀s G A C,X.Jx s G A->Stp X.n1 X.Bl G A C->X.Jx s G C
 five:∀x∈X.ws,0<=x/\x<5
 nd:X.ws.Nodup
 len:X.ws.length<=5
 hY:∀m pre G x A,X.J pre G A->xpO X.ws x A->Pfx X pre [x.1]->YieldAt Fence.wide m Ya X.l #[x.2] A λe C=>
   ∃G',(e=.returned (.bool true)/\X.J (pre++[x]) G' C/\Bod X.n1 X.Bl G G' A C)\/(e=.returned (.bool false)/\X.Jx (pre++[x]) G' C/\Bod X.n1 X.Bl G G' A C)
def ptA(b:Nat):qgx:=.pointer (some ⟨b,0,none⟩)
structure It3(X:vQ)(p:List Int)(G:Nat->Prop)(W:qgt)(lb:Option qi2)(lc:Nat)(nv:qgx):Prop where
 ls:W.heap[X.Bl]?=some (.cells #[.slice lb X.ws.length lc] 29 (0,0))
 li:qe X.n1 W.heap.size W (.slice lb X.ws.length lc) X.ws
 lf:∀B o,lb=some ⟨B,o,none⟩->X.ws≠[]->¬ G B
 yl:W.heap[X.By]?=some (.cells #[.func (.yield X.l) #[] #[]] 51 (0,0))
 us:W.heap[X.Bu]?=some (.cells #[.int .u8 (zy p:Nat)] 130 (0,0))
 gr:W.heap[X.Bg]?=some (.cells #[.func (.func 154) #[] #[ptA X.Bn,ptA X.Bl,ptA X.By,ptA X.Bu,ptA X.Bp]] 31 (0,0))
 pu:W.heap[X.Bp]?=some (.cells #[.func (.func 150) #[] #[ptA X.Bn,ptA X.Bu,ptA X.Bg]] 82 (0,0))
 nw:W.heap[X.Bn]?=some (.cells #[nv] 29 (0,0))
 no:W.ownsRow X.n1 3 1 nv p.length (p.map (qhe .i64))
 nr:∀g,nv.ownBlock=some g->¬ G g/\∀B o,lb=some ⟨B,o,none⟩->X.ws≠[]->B≠g
 nn:p=[]->X.ws=[]->nv=.slice none 0 0
 nf:¬ G X.Bl/\¬ G X.By/\¬ G X.Bn/\¬ G X.Bu/\¬ G X.Bg/\¬ G X.Bp
def q2a(X:vQ)(p:List Int)(G:Nat->Prop)(W:qgt):Prop:=∃nv,It3 X p G W X.lb X.lc nv
def qN(ws:List Int):Nat->List Int->List (List Int)
 | 0,p=>[p]
 | m+1,p=>ws.flatMap λn=>if n∈p then[] else qN ws m (p++[n])
def qc6(X:vQ)(W:qgt)(k:Nat):Prop:=∃v ty fr,W.heap[X.Bn]?=some (.cells #[v] ty fr)/\v.ownBlock=some k
structure ItR(X:vQ)(G G':Nat->Prop)(A C:qgt):Prop where
 tape:C.tape=A.tape
 size:A.heap.size<=C.heap.size
 keep:∀k,k<A.heap.size->(X.n1<=k\/k=X.Bl)->¬ G k->k≠X.Bn->k≠X.Bu->¬ qc6 X A k->C.heap[k]?=A.heap[k]?
 fp:∀k,G' k->G k\/A.heap.size<=k
 row:∀k,qc6 X C k->qc6 X A k\/A.heap.size<=k
theorem ItR.refl(X:vQ)(G:Nat->Prop)(A:qgt):ItR X G G A A:=⟨rfl,qgw _,λ_ _ _ _ _ _ _=>rfl,λ_ h=>.inl h,λ_ h=>.inl h⟩
theorem ItR.trans{X:vQ}{G G' a6:Nat->Prop}{A C E:qgt}(h:ItR X G G' A C)(k:ItR X G' a6 C E):ItR X G a6 A E :=
 ⟨k.tape.trans h.tape,qgE h.size k.size,λj hj hn hf h1 h2 h3=>(k.keep j (qh2 hj h.size) hn (λe=>(h.fp j e).elim hf (by omega)) h1 h2 (λe=>(h.row j e).elim h3 (by omega))).trans (h.keep j hj hn hf h1 h2 h3),
  λj hj=>(k.fp j hj).elim (h.fp j) (λe=>.inr (qgE h.size e)),λj hj=>(k.row j hj).elim (h.row j) (λe=>.inr (qgE h.size e))⟩
def RgB(X:vQ)(p:List Int)(L:List (List Int))(pre:List (List Int × qgx))(G:Nat->Prop)(W:qgt)(b:Bool)(W':qgt):Prop :=
 ∃G',q2a X p G' W'/\ItR X G G' W W'/\(if b=true then ∃xs,xs.map ql2=L/\X.J (pre++xs) G' W' else ∃xs t,L=xs.map ql2++t/\X.Jx (pre++xs) G' W')
def Rg(X:vQ)(p:List Int)(L:List (List Int))(pre:List (List Int × qgx))(G:Nat->Prop)(W:qgt)(e:Ending)(W':qgt):Prop:=∃b,e=.returned (.bool b)/\RgB X p L pre G W b W'
theorem qA{w:qgt}{k:Nat}{o:Obj}(h:w.heap[k]?=some o):k<w.heap.size:=(qgu.1 h).1
theorem yY{w:qgt}{b n:Nat}{v:qgx}{xs:List qgx}(h:w.ownsRow b 3 1 v n xs){g:Nat}(hg:v.ownBlock=some g):b<=g/\∃cs,w.heap[g]?=some (.cells cs 3 (0,0)):=by
 rcases h.2 with⟨rfl,_⟩ | ⟨g',cap,cur,rfl,hb,hgb,_⟩
 ·simp[qhp] at hg
 ·obtain rfl:g'=g:=by simpa[qhp] using hg
  exact⟨hb,_,hgb⟩
theorem J3{lo:Nat}{A C:qgt}{lb:Option qi2}{n lc:Nat}{l:List Int}(h:qe lo A.heap.size A (.slice lb n lc) l)(hs:A.heap.size<=C.heap.size)(hk:∀B o,lb=some ⟨B,o,none⟩->l≠[]->C.heap[B]?=A.heap[B]?):qe lo C.heap.size C (.slice lb n lc) l:=by
 obtain⟨base,cap,e,hl,hr⟩:=h;refine⟨base,cap,e,hl,λhne=>?_⟩;obtain⟨B,o,cs,fr,e1,e2,e3,e4,e5⟩:=hr hne;cases e;exact⟨B,o,cs,fr,e1,e2,by omega,(hk B o e1 hne).trans e4,e5⟩
theorem Yv{lo:Nat}{A C:qgt}{v:qgx}{n:Nat}{xs:List qgx}(h:A.ownsRow lo 3 1 v n xs)(hk:∀g,v.ownBlock=some g->C.heap[g]?=A.heap[g]?):C.ownsRow lo 3 1 v n xs:=by
 obtain⟨h1,h2⟩:=h;refine⟨h1,?_⟩;rcases h2 with h2 | ⟨g,cap,cur,rfl,hb,hg,hr⟩
 ·exact .inl h2
 ·exact .inr ⟨g,cap,cur,rfl,hb,(hk g (by simp[qhp])).trans hg,hr⟩
theorem YK{X:vQ}{p:List Int}{G:Nat->Prop}{W:qgt}{lb:Option qi2}{lc:Nat}{nv:qgx}(h:It3 X p G W lb lc nv){B o:Nat}(e:lb=some ⟨B,o,none⟩)(hne:X.ws≠[]):X.n1<=B/\B<W.heap.size/\∃cs fr,W.heap[B]?=some (.cells cs 3 fr):=by
 obtain⟨base,cap,e',hl,hr⟩:=h.li;cases e';obtain⟨B',o',cs,fr,e1,e2,e3,e4,e5⟩:=hr hne;rw[e] at e1;cases e1;exact⟨e2,e3,cs,fr,e4⟩
theorem It3.body{X:vQ}(O:JC X){p:List Int}{G G':Nat->Prop}{A C:qgt}{lb:Option qi2}{lc:Nat}{nv:qgx}(h:It3 X p G A lb lc nv)(hb:Bod X.n1 X.Bl G G' A C):It3 X p G' C lb lc nv/\ItR X G G' A C:=by
 have h1:=O.b1;have h2:=O.b2;have h3:=O.b3;have h4:=O.b4;have h5:=O.b5;have a6:∀k,k<A.heap.size->¬ G k->¬ G' k:=λk hk hf e=>(hb.fp k e).elim hf (by omega);have sl:=hb.keep _ (qA h.ls) (.inr rfl) h.nf.1;have sy:=hb.keep _ (qA h.yl) (.inl h1) h.nf.2.1;have sn:=hb.keep _ (qA h.nw) (.inl (by omega)) h.nf.2.2.1;have su:=hb.keep _ (qA h.us) (.inl (by omega)) h.nf.2.2.2.1;have sg:=hb.keep _ (qA h.gr) (.inl (by omega)) h.nf.2.2.2.2.1;have sp:=hb.keep _ (qA h.pu) (.inl (by omega)) h.nf.2.2.2.2.2;refine⟨⟨sl.trans h.ls,J3 h.li hb.size λB o e hne=>?_,λB o e hne=>?_,sy.trans h.yl,su.trans h.us,sg.trans h.gr,sp.trans h.pu,sn.trans h.nw,Yv h.no λg e=>?_,λg e=>⟨?_,(h.nr g e).2⟩,h.nn,
  a6 _ (qA h.ls) h.nf.1,a6 _ (qA h.yl) h.nf.2.1,a6 _ (qA h.nw) h.nf.2.2.1,a6 _ (qA h.us) h.nf.2.2.2.1,a6 _ (qA h.gr) h.nf.2.2.2.2.1,a6 _ (qA h.pu) h.nf.2.2.2.2.2⟩,
  hb.tape,hb.size,λk hk hn hf _ _ _=>hb.keep k hk hn hf,hb.fp,λk hk=>?_⟩
 ·obtain⟨b1,b2,_⟩:=YK h e hne;exact hb.keep B b2 (.inl b1) (h.lf B o e hne)
 ·obtain⟨b1,b2,_⟩:=YK h e hne;exact a6 B b2 (h.lf B o e hne)
 ·obtain⟨b1,cs,b2⟩:=yY h.no e;exact hb.keep g (qA b2) (.inl b1) (h.nr g e).1
 ·obtain⟨b1,cs,b2⟩:=yY h.no e;exact a6 g (qA b2) (h.nr g e).1
 ·obtain⟨v,ty,fr,e1,e2⟩:=hk;rw[sn] at e1;exact .inl ⟨v,ty,fr,e1,e2⟩
theorem It3.push{X:vQ}(O:JC X){p:List Int}{G:Nat->Prop}{A E C:qgt}{lb:Option qi2}{lc:Nat}{nv:qgx}(h:It3 X p G A lb lc nv)(a9:∀k,G k->k<A.heap.size){n:Int}{g' cap:Nat}(hE:A.grownBy E nv.ownBlock)(hown:E.ownsRow X.n1 3 1 (.slice (some ⟨g',0,none⟩) (p.length+1) cap) (p.length+1) (p.map (qhe .i64)++[.int .i64 n]))(hg:nv.ownBlock=some g'\/A.heap.size<=g')(b7:C.os=E.os)(a8:C.tape=E.tape)(hout:C.output=E.output)(hC:C.heap=((E.setCell ⟨X.Bn,0,none⟩ (.slice (some ⟨g',0,none⟩) (p.length+1) cap)).setCell ⟨X.Bu,0,none⟩ (.int .u8 (zy (p++[n]):Nat))).heap) :It3 X (p++[n]) G C lb lc (.slice (some ⟨g',0,none⟩) (p.length+1) cap)/\Stp X.n1 X.Bl G A C/\ItR X G G A C/\∀k,k≠X.Bn->k≠X.Bu->C.heap[k]?=E.heap[k]?:=by
 have h1:=O.b1;have h2:=O.b2;have h3:=O.b3;have h4:=O.b4;have h5:=O.b5;have h0:=O.bl;have a7:∀{k:Nat} {o:Obj},A.heap[k]?=some o->(∀cs,o≠.cells cs 3 (0,0))->some k≠nv.ownBlock:=λ{k o} hk b8 e=>by
  obtain⟨_,cs,e2⟩:=yY h.no e.symm;rw[hk] at e2;exact b8 cs (qkk e2)
 have el:=(hE.block _ (qA h.ls) (a7 h.ls (λcs e=>by cases e))).trans h.ls;have ey:=(hE.block _ (qA h.yl) (a7 h.yl (λcs e=>by cases e))).trans h.yl;have en:=(hE.block _ (qA h.nw) (a7 h.nw (λcs e=>by cases e))).trans h.nw;have eu:=(hE.block _ (qA h.us) (a7 h.us (λcs e=>by cases e))).trans h.us;have eg:=(hE.block _ (qA h.gr) (a7 h.gr (λcs e=>by cases e))).trans h.gr;have ep:=(hE.block _ (qA h.pu) (a7 h.pu (λcs e=>by cases e))).trans h.pu;have a6:∀k,k≠X.Bn->k≠X.Bu->C.heap[k]?=E.heap[k]?:=λk k1 k2=>by
  rw[hC];exact(qic _ _ _ k (λe=>k2 e)).trans (qic _ _ _ k (λe=>k1 e))
 have cn:C.heap[X.Bn]?=some (.cells #[.slice (some ⟨g',0,none⟩) (p.length+1) cap] 29 (0,0)):=by
  rw[hC,qic _ _ _ X.Bn (λe=>by have e':X.Bn=X.Bu:=e;omega),qj en];rfl
 have b9:(E.setCell ⟨X.Bn,0,none⟩ (.slice (some ⟨g',0,none⟩) (p.length+1) cap)).heap[X.Bu]?=some (.cells #[.int .u8 (zy p:Nat)] 130 (0,0)):=(qic _ _ _ X.Bu (λe=>by have e':X.Bu=X.Bn:=e;omega)).trans eu;have cu:C.heap[X.Bu]?=some (.cells #[.int .u8 (zy (p++[n]):Nat)] 130 (0,0)):=by
  rw[hC,qj b9];rfl
 have hsz:C.heap.size=E.heap.size:=by rw[hC];simp[qja]
 have hst:Stp X.n1 X.Bl G A C:=⟨b7.trans hE.os,a8.trans hE.tape,hout.trans hE.output,by rw[hsz];exact hE.size,λk hk hc=>by
  have k1:k≠X.Bn:=by rintro rfl;exact hc.elim (λhc=>by omega) h.nf.2.2.1
  have k2:k≠X.Bu:=by rintro rfl;exact hc.elim (λhc=>by omega) h.nf.2.2.2.1
  rw[a6 k k1 k2];refine hE.block k hk λe=>?_;obtain⟨b1,_⟩:=yY h.no e.symm;rcases hc with hc | hc
  ·omega
  ·exact(h.nr k e.symm).1 hc⟩
 have b6:X.n1<=g'/\∃cs,E.heap[g']?=some (.cells cs 3 (0,0)):=yY hown (by simp[qhp]);obtain⟨c3,c8,b0⟩:=b6;have hne:∀{k:Nat} {cs:Array qgx} {ty:qh5},E.heap[k]?=some (.cells cs ty (0,0))->ty≠3->g'≠k:=λ{k cs ty} hk ht e=>by
  rw[<- e,b0] at hk;cases hk;exact ht rfl
 have gn:=hne en (by decide);have gu:=hne eu (by decide);refine⟨⟨(a6 _ (by omega) (by omega)).trans el,J3 h.li (by rw[hsz];exact hE.size) λB o e hw=>?_,h.lf,(a6 _ (by omega) (by omega)).trans ey,cu,(a6 _ (by omega) (by omega)).trans eg,(a6 _ (by omega) (by omega)).trans ep,cn,?_,λg e=>?_,λe=>by simp at e,
  h.nf⟩,hst,
  ⟨a8.trans hE.tape,by rw[hsz];exact hE.size,λk hk hn hf k1 k2 k3=>?_,λk hk=>.inl hk,λk hk=>?_⟩,a6⟩
 ·obtain⟨b1,b2,cs,fr,b3⟩:=YK h e hw;rw[a6 B (λe=>?_) (λe=>?_)]
  ·exact hE.block B b2 λe'=>(h.nr B e'.symm).2 B o e hw rfl
  ·subst e;rw[h.nw] at b3;cases b3
  ·subst e;rw[h.us] at b3;cases b3
 ·rw[qih,qiH];exact Yv hown λg e=>a6 g (by
   obtain rfl:g'=g:=by simpa[qhp] using e
   exact gn) (by
   obtain rfl:g'=g:=by simpa[qhp] using e
   exact gu)
 ·obtain rfl:g'=g:=by simpa[qhp] using e
  refine⟨λhf=>?_,λB o e hw e2=>?_⟩
  ·rcases hg with hg | hg
   ·exact(h.nr _ hg).1 hf
   ·exact absurd (a9 _ hf) (by omega)
  ·obtain⟨b1,b2,_⟩:=YK h e hw;rcases hg with hg | hg
   ·exact(h.nr _ hg).2 B o e hw e2
   ·omega
 ·rw[a6 k k1 k2];exact hE.block k hk λe=>k3 ⟨nv,_,_,h.nw,e.symm⟩
 ·obtain⟨v,ty,fr,e1,e2⟩:=hk;rw[cn] at e1;cases e1;obtain rfl:g'=k:=by simpa[qhp] using e2
  rcases hg with hg | hg
  ·exact .inl ⟨nv,_,_,h.nw,hg⟩
  ·exact .inr hg
theorem q3d{w:qgt}{b k:Nat}{v:qgx}{xs:List qgx}{y:qgx}(h:w.ownsRow b 3 1 v (k+1) (xs++[y])):∃g cap,v=.slice (some ⟨g,0,none⟩) (k+1) cap/\k+1<=cap/\w.ownsRow b 3 1 (.slice (some ⟨g,0,none⟩) k cap) k xs:=by
 obtain⟨h1,h2⟩:=h;rcases h2 with⟨_,h0⟩ | ⟨g,cap,cur,rfl,hb,hg,hc,hm,hs,ht⟩
 ·omega
 ·have hk:xs.length=k:=by simp at h1;omega
  refine⟨g,cap,rfl,hc,by simpa using hk,.inr ⟨g,cap,cur,rfl,hb,hg,by omega,hm,hs,?_⟩⟩;have:=congrArg (List.take (k*1)) ht;rw[List.take_take,qp1 (by omega)] at this;rw[this,List.take_left' (by omega)]
theorem It3.pop{X:vQ}(O:JC X)(a8:X.ws≠[]){p:List Int}{G:Nat->Prop}{A C:qgt}{lb:Option qi2}{lc:Nat}{g cap:Nat}{n:Int}(h:It3 X (p++[n]) G A lb lc (.slice (some ⟨g,0,none⟩) (p.length+1) cap))(hC:Popped X.Bn X.Bu (some ⟨g,0,none⟩) p.length cap (zy p) A C) :It3 X p G C lb lc (.slice (some ⟨g,0,none⟩) p.length cap)/\Stp X.n1 X.Bl G A C/\ItR X G G A C:=by
 obtain⟨a9,a7,hout,hh⟩:=hC;have h1:=O.b1;have h2:=O.b2;have h3:=O.b3;have h4:=O.b4;have h5:=O.b5;have h0:=O.bl;have a6:∀k,k≠X.Bn->k≠X.Bu->C.heap[k]?=A.heap[k]?:=λk k1 k2=>by
  rw[hh];exact(qic _ _ _ k (λe=>k2 e)).trans (qic _ _ _ k (λe=>k1 e))
 have cn:C.heap[X.Bn]?=some (.cells #[.slice (some ⟨g,0,none⟩) p.length cap] 29 (0,0)):=by
  rw[hh,qic _ _ _ X.Bn (λe=>by have e':X.Bn=X.Bu:=e;omega),qj h.nw];rfl
 have b6:(A.setCell ⟨X.Bn,0,none⟩ (.slice (some ⟨g,0,none⟩) p.length cap)).heap[X.Bu]?=some (.cells #[.int .u8 (zy (p++[n]):Nat)] 130 (0,0)):=(qic _ _ _ X.Bu (λe=>by have e':X.Bu=X.Bn:=e;omega)).trans h.us;have cu:C.heap[X.Bu]?=some (.cells #[.int .u8 (zy p:Nat)] 130 (0,0)):=by
  rw[hh,qj b6];rfl
 have hsz:C.heap.size=A.heap.size:=by rw[hh];simp[qja]
 have hst:Stp X.n1 X.Bl G A C:=⟨a9,a7,hout,by rw[hsz];exact qgw _,λk hk hc=>a6 k (λe=>by
  subst e;rcases hc with hc | hc
  ·omega
  ·exact h.nf.2.2.1 hc) (λe=>by
  subst e;rcases hc with hc | hc
  ·omega
  ·exact h.nf.2.2.2.1 hc)⟩
 have hown:A.ownsRow X.n1 3 1 (.slice (some ⟨g,0,none⟩) p.length cap) p.length (p.map (qhe .i64)):=by
  have hn:=h.no;rw[qih,qiH] at hn;obtain⟨g',cap',e,_,ho⟩:=q3d (y:=.int .i64 n) hn;cases e;exact ho
 obtain⟨_,b7,b0⟩:=yY hown (g:=g) (by simp[qhp]);have hne:∀{k:Nat} {cs:Array qgx} {ty:qh5},A.heap[k]?=some (.cells cs ty (0,0))->ty≠3->g≠k:=λ{k cs ty} hk ht e=>by
  rw[<- e,b0] at hk;cases hk;exact ht rfl
 have hr:=h.nr g (by simp[qhp]);refine⟨⟨(a6 _ (by omega) (by omega)).trans h.ls,J3 h.li (by rw[hsz];exact qgw _) λB o e hw=>?_,h.lf,(a6 _ (by omega) (by omega)).trans h.yl,cu,(a6 _ (by omega) (by omega)).trans h.gr,(a6 _ (by omega) (by omega)).trans h.pu,cn,Yv hown λg' e=>?_,λg' e=>?_,λ_ e=>absurd e a8,
  h.nf⟩,hst,
  ⟨a7,by rw[hsz];exact qgw _,λk hk hn hf k1 k2 k3=>a6 k k1 k2,λk hk=>.inl hk,λk hk=>?_⟩⟩
 ·obtain⟨b1,b2,cs,fr,b3⟩:=YK h e hw;exact a6 B (λe=>by subst e;rw[h.nw] at b3;cases b3) (λe=>by subst e;rw[h.us] at b3;cases b3)
 ·obtain rfl:g=g':=by simpa[qhp] using e
  exact a6 g (hne h.nw (by decide)) (hne h.us (by decide))
 ·obtain rfl:g=g':=by simpa[qhp] using e
  exact hr
 ·obtain⟨v,ty,fr,e1,e2⟩:=hk;rw[cn] at e1;cases e1;exact .inl ⟨_,_,_,h.nw,e2⟩
theorem q0p(p:List Int)(x:Int):zy (p++[x])=zy p ||| 2 ^ x.toNat:=by simp[zy]
theorem qet(X:vQ)(O:JC X)(L:List (List Int))(p:List Int)(n:Nat)(hn:(n:Int)∈X.ws)(p3:(n:Int)∉p)(hp:∀x∈p,x∈X.ws)(r7:p.length+1<=5)(e5:∀pre G A,X.J pre G A->Pfx X pre L->q2a X (p++[(n:Int)]) G A->qhx Ya 154 #[ptA X.Bn,ptA X.Bl,ptA X.By,ptA X.Bu,ptA X.Bp] A (Rg X (p++[(n:Int)]) L pre G A)) :∀pre G A,X.J pre G A->Pfx X pre L->q2a X p G A->qhx Ya 150 #[.int .i64 n,ptA X.Bn,ptA X.Bu,ptA X.Bg] A (Rg X p L pre G A):=by
 intro pre G A hJ p7 p8;obtain⟨nv,hI⟩:=p8;obtain⟨i0,p5,n9,n8,n7⟩:=qjy Tp.info3p;have k0:n<5:=by have:=O.five _ hn;omega
 have d5:zy p<32:=Qs p 5 λx hx=>by have:=O.five x (hp x hx);omega
 have l4:(zy p).testBit n=false:=by
  rw[Bool.eq_false_iff];intro h;obtain⟨y,hy,r5⟩:=(YF p n).1 h;have:=O.five y (hp y hy);obtain rfl:y=(n:Int):=by omega
  exact p3 hy
 obtain⟨na,nn,nc,rfl⟩:=zK hI.no;have hb1:=O.b1;have s6:=O.b2;have s4:=O.b3;have s3:=O.b4;have s2:=O.b5;obtain⟨Bx,g5⟩:∃Bx,Bx=A.heap.size:=⟨_,rfl⟩;obtain⟨W1,b6⟩:∃W1,W1=A.alloc (.cells #[.int .i64 n] 3):=⟨_,rfl⟩;have hg1:A.grownBy W1 none:=by rw[b6];exact qgs _ _ none
 have d9:W1.heap[Bx]?=some (.cells #[.int .i64 n] 3 (0,0)):=by rw[b6,g5];exact qgC A _
 have g8:W1.heap.size=A.heap.size+1:=by rw[b6,qgF]
 have b8:=blk hg1 (by simp) hI.nw;have b7:=blk hg1 (by simp) hI.us;have g9:=blk hg1 (by simp) hI.gr;have r9:X.n1<=A.heap.size:=by have:=qA hI.nw;omega
 have e4:∀{k:Nat} {o:Obj},A.heap[k]?=some o->(∀cs,o≠.cells cs 3 (0,0))->some k≠(qhw na nn nc).ownBlock:=λ{k o} hk p4 e=>by
  obtain⟨_,cs,e2⟩:=yY hI.no e.symm;rw[hk] at e2;exact p4 cs (qkk e2)
 have m5:=qgr (e4 hI.nw (λcs e=>by cases e));have m4:=qgr (e4 hI.us (λcs e=>by cases e));have m3:=qgr (show some Bx≠(qhw na nn nc).ownBlock from λe=>by
  obtain⟨_,cs,e2⟩:=yY hI.no e.symm;have:=qA e2;omega)
 have c1:W1.cell? ⟨X.Bn,0,none⟩=some (.slice na nn nc):=q9 b8 rfl;have l6:W1.cell? ⟨X.Bu,0,none⟩=some (.int .u8 (zy p:Nat)):=q9 b7 rfl;have c3:W1.cell? ⟨Bx,0,none⟩=some (.int .i64 n):=q9 d9 rfl;have c4:W1.cell? ⟨X.Bg,0,none⟩=some (.func (.func 154) #[] #[ptA X.Bn,ptA X.Bl,ptA X.By,ptA X.Bu,ptA X.Bp]):=q9 g9 rfl;have z1:=qq (o:=0) b8;have z2:=qq (o:=0) b7;have k5:X.Bn<W1.heap.size:=qA b8;have hl2:X.Bu<W1.heap.size:=qA b7;have q3:=qgr (hI.no.kept hg1 (by cases(qhw na nn nc).ownBlock<;>simp));have HI:=qgr hI;have l8:=qgr d9;have q7:=qgr hg1;have q1:=qgr b6;have g7:=qgr g5;obtain⟨M,hM⟩:∃M:Int,M=(zy p:Nat):=⟨_,rfl⟩;obtain⟨M2,e8⟩:∃M2:Int,(zy p ||| 2 ^ n:Nat)=M2:=⟨_,rfl⟩;have c2:W1.cell? ⟨X.Bu,0,none⟩=some (.int .u8 M):=by rw[hM];exact l6
 have HM:=qgr hM;have q4:=qgr e8;have a9:∀w,qhx Ya 151 #[.int .u8 M,.int .i64 n] w λe w'=>e=.returned (.int .u8 M2)/\w=w':=λw=>by
  rw[hM,<- e8];exact JY _ n w d5 k0
 have q0:=qgr a9;have l9:=qgr g8;have r8:X.n1<=W1.heap.size:=by omega
 clear hI e4 d9 hg1 b6 g5 b8 b7 g9 l6 hM e8 a9 g8;unfold ptA at *
 go_enter_defers Tp.x150,Tryz.ntmps150;go_upto_region 1 with(fail);rw[<- g7.out,show A.alloc (.cells #[.int .i64 n] 3)=W1 from q1.out.symm];refine wp_region_noPanic ?_;refine qU 7 (λw'=>w'.cell? ⟨X.Bn,0,none⟩=some (.slice na nn nc)/\w'.cell? ⟨X.Bu,0,none⟩=some (.int .u8 M)/\w'.cell? ⟨Bx,0,none⟩=some (.int .i64 n)) (by kernel_rfl) (by kernel_rfl) ⟨c1,c2,c3⟩ (λa6=>?_);simp only[qh1,qh7,qhj,qir,qhd,qhr,qhs,qi1,qhn,qha];refine tk 0 (h:=tk 1 (h:=tk 4 (h:=tk 5 (h:=?_))));try go_frame
 refine rdy [2] ?_;refine cns 2 (λK hK=>?_) ?_
 ·skip;go_simp;refine hK.out _ _ (by first | exact s5 | exact a6 | exact⟨(qgs _ _ none).cell a6.1 (by simp),(qgs _ _ none).cell a6.2.1 (by simp),(qgs _ _ none).cell a6.2.2 (by simp)⟩) (λa6=>?_);clear hK K;try go_frame
  refine rdy [3] ?_;refine cns 3 (λK hK=>?_) ?_
  ·skip;refine step_append_lies _ (by rfl) _ _ _ (by rfl) X.n1 3 i0 _ 1 8 Tp.und29' p5 n9 n8 n7 rfl (by omega) (.slice na nn nc) p.length (p.map (qhe .i64)) (by rfl) (by exact q3.out.alloc _) ⟨W1.heap.size,0,none⟩ 1 1 [.int .i64 n] (by rfl) (by rfl) (qit (cs:=#[.int .i64 n]) (t:=3) (fr:=(0,0)) (qgC W1 _)) (by simp[qjh]) (by omega) (by unfold qky;omega) (by omega) (by simp;omega) (W1.heap.size+1) (by simp) ?_;intro g' cap w5 b0 a7 d7 r4;have a8:W1.grownBy w5 (qhw na nn nc).ownBlock:=((qgs W1 (.cells #[.int .i64 n] 3) none).but _).trans ⟨a7.os,a7.tape,a7.output,a7.size,a7.block⟩;have s5:w5.cell? ⟨X.Bn,0,none⟩=some (.slice na nn nc)/\w5.cell? ⟨X.Bu,0,none⟩=some (.int .u8 M)/\w5.cell? ⟨Bx,0,none⟩=some (.int .i64 n):=⟨a8.cell c1 m5.out,a8.cell c2 m4.out,a8.cell c3 m3.out⟩;have n2:=(a8.frozen_far _ k5 m5.out).trans z1;have m9:=(a8.frozen_far _ hl2 m4.out).trans z2;have q2:=qgr b0;have m7:=qgr a8;have m8:=qgr d7;clear b0 a8 d7 a7;refine hK.out _ _ (by first | exact s5 | exact a6 | exact⟨(qgs _ _ none).cell a6.1 (by simp),(qgs _ _ none).cell a6.2.1 (by simp),(qgs _ _ none).cell a6.2.2 (by simp)⟩) (λa6=>?_);clear hK K;try go_frame
   refine rdy [6] ?_;refine cns 6 (λK hK=>?_) ?_
   ·skip;go_simp;go_at_call 151;refine(q0.out _).mono ?_;rintro e w2 ⟨rfl,rfl⟩;refine hK.out _ _ (by first | exact s5 | exact a6 | exact⟨(qgs _ _ none).cell a6.1 (by simp),(qgs _ _ none).cell a6.2.1 (by simp),(qgs _ _ none).cell a6.2.2 (by simp)⟩) (λa6=>?_);clear hK K;try go_frame
    refine⟨by kernel_rfl,?_⟩;simp only[qhA,qio];have h9:X.Bn≠X.Bu:=by omega
    have r3:X.Bu≠X.Bn:=by omega
    have n4:=s5.1;have n3:=s5.2.1;go_wp2;refine NoPanic.normal ?_;obtain⟨C,hC⟩:∃C,C=(w5.setCell ⟨X.Bn,0,none⟩ (.slice (some ⟨g',0,none⟩) (p.length+1) cap)).setCell ⟨X.Bu,0,none⟩ (.int .u8 M2):=⟨_,rfl⟩;rw[<- hC];obtain⟨e9,hst,k7,e7⟩:=HI.out.push O (O.hlt _ _ _ hJ) (n:=(n:Int)) (g':=g') (cap:=cap) (A:=A) (E:=w5) (C:=C) ((q7.out.but _).trans m7.out) q2.out (by rcases m8.out with h | h;exact .inl h;right;have:=l9.out;omega) (by rw[hC];rfl) (by rw[hC];rfl) (by rw[hC];rfl) (by rw[hC,q0p,Int.toNat_natCast,q4.out]);have l5:=O.hJ _ _ _ _ hJ hst;have k9:C.heap[Bx]?=some (.cells #[.int .i64 n] 3 (0,0)):=by
     have h1:=qA HI.out.nw;have h2:=qA HI.out.us;have h3:=g7.out;rw[e7 Bx (by omega) (by omega)];exact(m7.out.block _ (qA l8.out) m3.out).trans l8.out
    have s8:C.cell? ⟨X.Bg,0,none⟩=some (.func (.func 154) #[] #[.pointer (some ⟨X.Bn,0,none⟩),.pointer (some ⟨X.Bl,0,none⟩),.pointer (some ⟨X.By,0,none⟩),.pointer (some ⟨X.Bu,0,none⟩),.pointer (some ⟨X.Bp,0,none⟩)]):=q9 (o:=0) e9.gr rfl;have HC:=qgr hC;have t1:=qgr e7;have m6:=qgr e9;have s9:=qgr hst;have q6:=qgr k7;have q5:=qgr l5;have l7:=qgr k9;clear hC e7 e9 hst k7 l5 k9 n4 n3 s5 n2 m9 c1 c2 c3 c4 z1 z2 k5 hl2 a6;go_wp2_with (first | (go_at_call 154;refine(e5 pre G C q5.out p7 ⟨_,m6.out⟩).mono ?_;rintro e w6 ⟨b,rfl,hR⟩));obtain⟨G6,⟨n6,h6⟩,d6,c8⟩:=hR;have c9:=h6.no;rw[qih,qiH] at c9;obtain⟨g6,d8,e6,p6,-⟩:=q3d (y:=.int .i64 n) c9;have p9:n6=.slice (some ⟨g6,0,none⟩) (p.length+1) d8:=e6;subst p9;have s7:=g7.out;have s1:=qA HI.out.nw;have r6:=qA HI.out.us;have k8:w6.heap[Bx]?=some (.cells #[.int .i64 n] 3 (0,0)):=by
     rw[d6.keep Bx (qA l7.out) (.inl (by omega)) (λhf=>?_) (by omega) (by omega) (λhr=>?_)]
     ·exact l7.out
     ·have:=O.hlt _ _ _ hJ _ hf;omega
     ·obtain⟨v,ty,fr,e1,e2⟩:=hr;rw[m6.out.nw] at e1;cases e1;obtain rfl:g'=Bx:=by simpa[qhp] using e2
      rcases m8.out with h | h
      ·obtain⟨_,cs,h2⟩:=yY HI.out.no h;have:=qA h2;omega
      ·have:=l9.out;omega
    refine leaves_cons (f:=152) (args:=#[.pointer (some ⟨X.Bn,0,none⟩),.pointer (some ⟨X.Bu,0,none⟩),.pointer (some ⟨Bx,0,none⟩)]) (by simp) (by simp[go_sem]) ?_;refine(qcB X.Bn X.Bu Bx (some ⟨g6,0,none⟩) p.length d8 (zy p) n w6 k0 d5 l4 (by omega) p6 h9 (by omega) h6.nw (by rw[h6.us,q0p,Int.toNat_natCast]) k8 _).mono ?_;rintro e u' w7 ⟨rfl,rfl,h8⟩;obtain⟨h7,b9,k6⟩:=h6.pop O (λe=>by rw[e] at hn;cases hn) h8;refine⟨.bool b,by rw[results_tmp (t:=5) rfl];rfl,b,rfl,G6,⟨_,h7⟩,(q6.out.trans d6).trans k6,?_⟩;cases b with
    | true=>
     obtain⟨xs,e1,e2⟩:=c8;exact⟨xs,e1,O.hJ _ _ _ _ e2 b9⟩
    | false=>
     obtain⟨xs,t,e1,e2⟩:=c8;exact⟨xs,t,e1,O.hJx _ _ _ _ e2 b9⟩
   exact qp.nil
  exact qp.nil
 exact qp.nil
end
section
open Go.RowKit Go.Shelf
attribute [local go_sem] Oper.semAt_some
theorem q6s{w:qgt}{b n:Nat}{v:qgx}{xs:List qgx}(h:w.ownsRow b 3 1 v n xs):∃a c,v=.slice a n c:=by
 rcases h.2 with⟨rfl,h0⟩ | ⟨g,cap,cur,rfl,_⟩
 ·exact⟨none,0,by rw[h0]⟩
 ·exact⟨_,_,rfl⟩
theorem It3.xp{X:vQ}{p:List Int}{G:Nat->Prop}{W:qgt}{lb:Option qi2}{lc:Nat}{nv:qgx}(h:It3 X p G W lb lc nv)(hl:p.length<=5):xpI (p,nv) W:=(qe.own h.no (by omega)).mono (qhz _) (qgw _)
theorem q8i(X:vQ)(O:JC X)(p:List Int)(hp:p.length=X.ws.length)(b0:p.Nodup)(a9:∀x∈p,x∈X.ws):∀pre G A,X.J pre G A->Pfx X pre (qN X.ws 0 p)->q2a X p G A->qhx Ya 154 #[ptA X.Bn,ptA X.Bl,ptA X.By,ptA X.Bu,ptA X.Bp] A (Rg X p (qN X.ws 0 p) pre G A):=by
 intro pre G A hJ b6 b7;obtain⟨nv,hI⟩:=b7;have a8:=hI.xp (by have:=O.len;omega);obtain⟨na,nc,rfl⟩:=q6s hI.no;have c1:A.cell? ⟨X.Bn,0,none⟩=some (.slice na p.length nc):=q9 hI.nw rfl;have c2:A.cell? ⟨X.Bl,0,none⟩=some (.slice X.lb X.ws.length X.lc):=q9 hI.ls rfl;have c3:A.cell? ⟨X.By,0,none⟩=some (.func (.yield X.l) #[] #[]):=q9 hI.yl rfl;obtain⟨fn,tmps,assign,body,hy,hR⟩:=O.hY 2 pre G (p,.slice na p.length nc) A hJ ⟨a8,hp,b0,a9,(qq5 (p=[])).elim (λh=>.inr (hI.nn h (qhv (by rw[<- hp,h];rfl)))) .inl⟩ b6;have b8:((p.length:Int) == (X.ws.length:Int))=true:=by rw[hp];simp
 have HI:=qgr hI;dsimp only at hy;clear a8 hI hp;refine(qjt (n:=3)).1 ?_;refine qoo Tp.x154 rfl trivial ?_ rfl;have b9:∀k:Nat,(Fence.wide.depth.isSome=true->1<=k):=λk h=>by cases h
 unfold ptA;simp only[Tryz.ntmps154,qhk,qh1,qh7,qhj,qir,qhr,qhs,qi1,qke,qhn,qha]
 gi_wp2
 refine hR.mono ?_;rintro e W3 ⟨G3,⟨rfl,a7,a6⟩ | ⟨rfl,a7,a6⟩⟩
 ·gi_wp2
  go_ret;obtain⟨h3,r3⟩:=HI.out.body O a6;exact⟨true,rfl,G3,⟨_,h3⟩,r3,[(p,.slice na p.length nc)],rfl,a7⟩
 ·gi_wp2
  go_ret;obtain⟨h3,r3⟩:=HI.out.body O a6;exact⟨false,rfl,G3,⟨_,h3⟩,r3,[(p,.slice na p.length nc)],[],rfl,a7⟩
theorem vZ(ws p:List Int)(m k:Nat)(x:Int)(h:ws[k]?=some x):((ws.take (k+1)).flatMap λn=>if n∈p then[] else qN ws m (p++[n]))=((ws.take k).flatMap λn=>if n∈p then[] else qN ws m (p++[n]))++(if x∈p then[] else qN ws m (p++[x])):=by
 rw[qi7,h];simp
theorem xW(ws p:List Int)(m k:Nat):qN ws (m+1) p=((ws.take k).flatMap λn=>if n∈p then[] else qN ws m (p++[n]))++((ws.drop k).flatMap λn=>if n∈p then[] else qN ws m (p++[n])):=by
 rw[<- qpm,List.take_append_drop];rfl
theorem q8j(X:vQ)(O:JC X)(m:Nat)(p:List Int)(hp:p.length+(m+1)=X.ws.length)(g6:p.Nodup)(b6:∀x∈p,x∈X.ws)(ih:∀q,q.length+m=X.ws.length->q.Nodup->(∀x∈q,x∈X.ws)->∀pre G A,X.J pre G A->Pfx X pre (qN X.ws m q)->q2a X q G A->qhx Ya 154 #[ptA X.Bn,ptA X.Bl,ptA X.By,ptA X.Bu,ptA X.Bp] A (Rg X q (qN X.ws m q) pre G A)) :∀pre G A,X.J pre G A->Pfx X pre (qN X.ws (m+1) p)->q2a X p G A->qhx Ya 154 #[ptA X.Bn,ptA X.Bl,ptA X.By,ptA X.Bu,ptA X.Bp] A (Rg X p (qN X.ws (m+1) p) pre G A):=by
 intro pre G A hJ e6 h8;obtain⟨nv,hI⟩:=h8;have g8:=O.len;obtain⟨na,nc,rfl⟩:=q6s hI.no;have c1:A.cell? ⟨X.Bn,0,none⟩=some (.slice na p.length nc):=q9 hI.nw rfl;have c2:A.cell? ⟨X.Bl,0,none⟩=some (.slice X.lb X.ws.length X.lc):=q9 hI.ls rfl;have l5:((p.length:Int) == (X.ws.length:Int))=false:=by rw[beq_eq_false_iff_ne];omega
 have b9:∀n:Nat,(n:Int)∈X.ws->¬ (n:Int)∈p->∀pre G A,X.J pre G A->Pfx X pre (qN X.ws m (p++[(n:Int)]))->q2a X p G A->qhx Ya 150 #[.int .i64 n,ptA X.Bn,ptA X.Bu,ptA X.Bg] A (Rg X p (qN X.ws m (p++[(n:Int)])) pre G A):=λn hn d9=>
  qet X O _ p n hn d9 b6 (by omega) (ih _ (by simp;omega) (List.nodup_append.2 ⟨g6,by simp,λa ha b hb e=>d9 (by rw[qib.1 hb] at e;exact e ▸ ha)⟩) (λx hx=>by rcases qiF.1 hx with h | h;exact b6 x h;rw[qib.1 h];exact hn))
 have g5:=qgr b9;have h9:=hI;have HI:=qgr hI;have HJ:=qgr hJ;have HP:=qgr hp;have k6:=qgr e6;clear e6;clear hI hp ih hJ b9 h9;refine(qjt (n:=3)).1 ?_;refine qoo Tp.x154 rfl trivial ?_ rfl;have l6:∀k:Nat,(Fence.wide.depth.isSome=true->1<=k):=λk h=>by cases h
 unfold ptA at *
 simp only[Tryz.ntmps154,qhk,qh1,qh7,qhj,qir,qhr,qhs,qi1,qke,qhn,qha]
 gi_wp2
 gi_loopw [18] (λiv wr=>∃k:Nat,iv=.int .i64 k/\k<=X.ws.length/\∃Gk,q2a X p Gk wr/\ItR X G Gk A wr/\∃xs,xs.map ql2=((X.ws.take k).flatMap λn=>if n∈p then[] else qN X.ws m (p++[n]))/\X.J (pre++xs) Gk wr) (λiv _=>(X.ws.length - qia iv).toNat)
 case atStart=>exact⟨0,rfl,by omega,G,⟨_,HI.out⟩,ItR.refl _ _ _,[],by simp,by simpa using HJ.out⟩
 case round=>
  obtain⟨k,rfl,hk,Gk,⟨k8,e8⟩,e5,xs,hxs,e7⟩:=hrel;have a8:=qgr e8;have b8:=qgr e5;have a9:=qgr hxs;have d8:=qgr e7;clear e8 e5 hxs e7 c1 c2;by_cases hlt:k<X.ws.length
  ·obtain⟨x,b0⟩:∃x,X.ws[k]?=some x:=⟨_,qgB hlt⟩;have d5:=qhc b0;have l4:=O.five x d5;obtain⟨b1,m3,he,-,hc⟩:=a8.out.li.cell;cases he;obtain⟨B,o,g9,l9,l8,l7,e9⟩:=hc (by intro e;rw[e] at hlt;simp at hlt);have hx:=e9 k hlt;rw[b0] at hx;simp only[qgD] at hx;obtain⟨n,rfl⟩:∃n:Nat,x=n:=⟨x.toNat,by omega⟩;have c3:wr.cell? ⟨X.Bu,0,none⟩=some (.int .u8 (zy p:Nat)):=q9 a8.out.us rfl;have c4:wr.cell? ⟨X.Bp,0,none⟩=some (.func (.func 150) #[] #[.pointer (some ⟨X.Bn,0,none⟩),.pointer (some ⟨X.Bu,0,none⟩),.pointer (some ⟨X.Bg,0,none⟩)]):=q9 a8.out.pu rfl;have g7:n<5:=by omega
   have e4:zy p<32:=Qs p 5 λx hx=>by have:=O.five x (b6 x hx);omega
   have k7:(k:Int)<(X.ws.length:Int):=by omega
   have b7:=qgr b0;have k0:=qgr d5;obtain⟨M,hM⟩:∃M:Int,M=(zy p:Nat):=⟨_,rfl⟩;rw[<- hM] at c3;have c9:(zy p).testBit n=decide ((n:Int)∈p):=by
    rw[Bool.eq_iff_iff,YF,decide_eq_true_eq];constructor
    ·rintro⟨y,hy,k9⟩;have:=O.five y (b6 y hy);obtain rfl:y=(n:Int):=by omega
     exact hy
    ·exact λh=>⟨n,h,by omega⟩
   have c8:∀w,qhx Ya 129 #[.int .u8 M,.int .i64 n] w λe w'=>e=.returned (.bool (decide ((n:Int)∈p)))/\w=w':=λw=>by
    rw[hM,<- c9];exact q71 _ n w e4 g7
   have a6:=qgr c8;clear b0 d5 hc e9 hM c9 c8;rw[g9];by_cases hin:(n:Int)∈p
   ·have hd:decide ((n:Int)∈p)=true:=by simpa using hin
    have a7:=qgr hin;clear hin;rw[hd] at a6;clear hd
    gi_wp2_with (first | (refine⟨trivial,?_⟩;gi_at_call 129;refine(qjt.2 (a6.out _)).mono ?_;rintro e w2 ⟨rfl,rfl⟩))
    refine⟨λ_ h=>(by cases h),?_⟩
    gi_wp2
    go_roundw
    case rel=>exact⟨k+1,by simp,by omega,Gk,⟨_,a8.out⟩,b8.out,xs,by rw[vZ _ _ _ _ _ b7.out,if_pos a7.out,List.append_nil];exact a9.out,d8.out⟩
    case measure=>simp[qia];omega
   ·have hd:decide ((n:Int)∈p)=false:=by simpa using hin
    have a7:=qgr hin;clear hin;rw[hd] at a6;clear hd;have k5:=qgr (show Pfx X (pre++xs) (qN X.ws m (p++[(n:Int)])) by
     obtain⟨t,ht⟩:=k6.out;rw[xW X.ws p m (k+1),vZ _ _ _ _ _ b7.out,if_neg a7.out,<- a9.out] at ht;exact⟨_,by rw[ht,qiH];simp only[qjp];rfl⟩)
    gi_wp2_with (first
     | (refine⟨trivial,?_⟩;gi_at_call 129;refine(qjt.2 (a6.out _)).mono ?_;rintro e w2 ⟨rfl,rfl⟩)
     | (refine⟨trivial,?_⟩;gi_at_call 150;refine(qjt.2 (g5.out n k0.out a7.out (pre++xs) Gk _ d8.out k5.out ⟨_,a8.out⟩)).mono ?_;rintro e w3 ⟨b,rfl,hR⟩;cases b))
    ·obtain⟨G3,d7,d6,ys,t,e1,e2⟩:=hR;go_ret;refine⟨false,rfl,G3,d7,b8.out.trans d6,xs++ys,t++((X.ws.drop (k+1)).flatMap λn=>if n∈p then[] else qN X.ws m (p++[n])),?_,by simpa using e2⟩;rw[xW X.ws p m (k+1),vZ _ _ _ _ _ b7.out,if_neg a7.out,e1,qiH,a9.out];simp
    ·obtain⟨G3,d7,d6,ys,e1,e2⟩:=hR;go_roundw
     case rel=>exact⟨k+1,by simp,by omega,G3,d7,b8.out.trans d6,xs++ys,by rw[vZ _ _ _ _ _ b7.out,if_neg a7.out,qiH,a9.out,e1],by simpa using e2⟩
     case measure=>simp[qia];omega
  ·obtain rfl:k=X.ws.length:=by omega
   gi_wp2
   go_ret;exact⟨true,rfl,Gk,⟨_,a8.out⟩,b8.out,xs,by rw[a9.out,xW X.ws p m X.ws.length];simp,d8.out⟩
theorem q3E(X:vQ)(O:JC X):∀(m:Nat) (q:List Int),q.length+m=X.ws.length->q.Nodup->(∀x∈q,x∈X.ws)->∀pre G A,X.J pre G A->Pfx X pre (qN X.ws m q)->q2a X q G A->qhx Ya 154 #[ptA X.Bn,ptA X.Bl,ptA X.By,ptA X.Bu,ptA X.Bp] A (Rg X q (qN X.ws m q) pre G A)
 | 0,q,h,hn,hq=>q8i X O q (by omega) hn hq
 | m+1,q,h,hn,hq=>q8j X O m q h hn hq (q3E X O m)
end
section
open Go.RowKit Go.Shelf
theorem q1m{F:Fence}(hd:F.depth=none)(k:Nat):F.room k:=λd h=>by rw[hd] at h;cases h
theorem qae{F:Fence}(hd:F.depth=none){m m':Nat}{P:qgG}{l:Nat}{f:qi8}{tmps:Array qgx}{assign body:qj9}{w:qgt}{R:Ending->qgt->Prop}(h:RoundIn F m P l f tmps assign body w R):RoundIn F m' P l f tmps assign body w R:=⟨h.1,λc cs _=>h.2 c cs (q1m hd _)⟩
theorem q90{F:Fence}(hd:F.depth=none){m:Nat}(m':Nat){P:qgG}{l:Nat}{args:Array qgx}{W:qgt}{R:Ending->qgt->Prop}(h:YieldAt F m P l args W R):YieldAt F m' P l args W R:=by
 obtain⟨fn,tmps,assign,body,hy,hR⟩:=h;exact⟨fn,tmps,assign,body,hy,qae hd hR⟩
theorem q5m(n:Nat)(Bl:Nat)(b:Option qi2)(c:Nat)(ll ws:List Int)(hS:Qg ll ws)(h5:∀x∈ws,0<=x/\x<5)(l8:ws.Nodup)(g9:ws.length<=5)(l:Nat)(J Jx:List (List Int × qgx)->(Nat->Prop)->qgt->Prop)(G0:Nat->Prop)(W:qgt)(k6:W.heap[Bl]?=some (.cells #[.slice b ll.length c] 29 (0,0)))(hI:qe 0 W.heap.size W (.slice b ll.length c) ll)(hB:¬ G0 Bl)(hF:∀s G A,J s G A->∀k,G k->k<A.heap.size)(hJ:∀s G A C,J s G A->Stp W.heap.size Bl G A C->J s G C)(hJx:∀s G A C,Jx s G A->Stp W.heap.size Bl G A C->Jx s G C)(hY:∀pre G x W1,J pre G W1->xpO ws x W1->(∃t,qN ws ws.length []=(pre++[x]).map ql2++t)->YieldAt Fence.wide n Ya l #[x.2] W1 λe W'=>∃G',(e=.returned (.bool true)/\J (pre++[x]) G' W'/\Bod W.heap.size Bl G G' W1 W')\/(e=.returned (.bool false)/\Jx (pre++[x]) G' W'/\Bod W.heap.size Bl G G' W1 W'))(h0:J [] G0 W) :qhx Ya 149 #[.func (.yield l) #[] #[],.pointer (some ⟨Bl,0,none⟩)] W λe W'=>(∃v,e=.returned v)/\((∃xs G,xs.map ql2=qN ws ws.length []/\J xs G W')\/(∃pre G,(∃t,qN ws ws.length []=pre.map ql2++t)/\Jx pre G W')):=by
 have k5:=qA k6;obtain⟨By,c8⟩:∃By,By=W.heap.size:=⟨_,rfl⟩;obtain⟨W1,b8⟩:∃W1,W1=W.alloc (.cells #[.func (.yield l) #[] #[]] 51):=⟨_,rfl⟩;have hg1:W.grownBy W1 none:=by rw[b8];exact qgs _ _ none
 have g6:W1.heap[By]?=some (.cells #[.func (.yield l) #[] #[]] 51 (0,0)):=by rw[b8,c8];exact qgC W _
 have c3:W1.heap.size=By+1:=by rw[b8,qgF,c8]
 have b6:=blk hg1 (by simp) k6;have c1:W1.cell? ⟨Bl,0,none⟩=some (.slice b ll.length c):=q9 b6 rfl;have z1:=qq (o:=0) b6;have g7:Bl<W1.heap.size:=qA b6;have n7:=qgr ((hI.kept hg1 (by simp)).mono (qgw _) hg1.size);have n2:=qgr b8;have e9:=qgr c8;have n3:=qgr c3;have p3:=qgr hg1;have m9:=qgr g6;have l6:=qgr b6;clear b8 c8 c3 hg1 g6 b6 hI;go_enter Tp.x149,Tryz.ntmps149;go_upto_region 1 with(fail);rw[<- e9.out,show W.alloc (.cells #[.func (.yield l) #[] #[]] 51)=W1 from n2.out.symm];go_upto_region 2 with(first
  | (go_at_call 135;refine(QQ _ _ _ _).mono ?_;rintro e w2 ⟨rfl,rfl⟩)
  | (go_at_call 134;refine(hS W1.heap.size (.slice b ll.length c) _ (by simp) (by rw[kE];rfl) ((n7.out.alloc _).mono (qgw _) (by simp))).mono ?_;rintro e w2 ⟨v,rfl,e7,d6,hg2⟩;obtain⟨lb,lc,rfl,-,-⟩:=e7.cell;have c2:=(((qgs W1 (.cells #[.slice b ll.length c] 29) none).trans hg2).cell c1 (by simp));have z2:=(((qgs W1 (.cells #[.slice b ll.length c] 29) none).trans hg2).frozen_far _ g7 (by simp)).trans z1;have n6:=qgr e7;have b9:=qgr ((qgs W1 (.cells #[.slice b ll.length c] 29) none).trans hg2);have p6:=qgr d6;clear e7 d6 hg2))
 have hwl:=qA ((blk b9.out (by simp) l6.out));obtain⟨W4,d9⟩:∃W4,W4=w2.setCell ⟨Bl,0,none⟩ (.slice lb ws.length lc):=⟨_,rfl⟩;rw[<- d9];have a8:=qgr d9;clear d9 c1 c2 z1 z2;have p5:∀(a:qi2) (fn:Fn) (x y:Array qgx) (m:Mode) (w:qgt),(store a (.func fn x y) m).run Ya w=stored Ya w a (.func fn x y) m:=λa fn x y m w=>run_store _ w a _ m rfl;go_upto_region 6 with(fail);obtain⟨W8,a6⟩:∃W8,W8=(((W4.alloc (.cells #[.slice none 0 0] 29)).alloc (.cells #[.int .u8 0] 130)).alloc (.cells #[.nilFunc] 31)).alloc (.cells #[.func (.func 150) #[] #[.pointer (some ⟨W4.heap.size,0,none⟩),.pointer (some ⟨W4.heap.size+1,0,none⟩),.pointer (some ⟨W4.heap.size+1+1,0,none⟩)]] 82):=⟨_,rfl⟩;have e8:(((W4.alloc (.cells #[.slice none 0 0] 29)).alloc (.cells #[.int .u8 0] 130)).alloc (.cells #[.nilFunc] 31)).alloc (.cells #[.func (.func 150) #[] #[.pointer (some ⟨W4.heap.size,0,none⟩),.pointer (some ⟨W4.heap.size+1,0,none⟩),.pointer (some ⟨W4.heap.size+1+1,0,none⟩)]] 82)=W8:=a6.symm;rw[e8];clear e8;obtain⟨S,a7⟩:∃S,S=W4.heap.size:=⟨_,rfl⟩;rw[<- a7] at a6 ⊢;have c9:W4.heap.size=w2.heap.size:=by rw[a8.out];simp[qja]
 have p4:=b9.out.size;have h9:W4.heap[Bl]?=some (.cells #[.slice lb ws.length lc] 29 (0,0)):=by rw[a8.out,qj (blk b9.out (by simp) l6.out)];rfl
 have g5:W4.heap[By]?=some (.cells #[.func (.yield l) #[] #[]] 51 (0,0)):=by
  rw[a8.out,qic _ _ _ By (λe=>by have e':By=Bl:=e;have:=e9.out;omega)];exact blk b9.out (by simp) m9.out
 have ha:∀(w:qgt) (o:Obj) (k:Nat) (p:Obj),w.heap[k]?=some p->(w.alloc o).heap[k]?=some p:=λw o k p h=>qr h;have k7:=a7;have sA:∀(w:qgt) (o:Obj),(w.alloc o).heap.size=w.heap.size+1:=λw o=>qgF w o;have n8:W8.heap[S]?=some (.cells #[.slice none 0 0] 29 (0,0)):=by rw[a6,a7];exact ha _ _ _ _ (ha _ _ _ _ (ha _ _ _ _ (qgC W4 _)))
 have u8:W8.heap[S+1]?=some (.cells #[.int .u8 0] 130 (0,0)):=by
  rw[a6];refine ha _ _ _ _ (ha _ _ _ _ ?_);have:=qgC (W4.alloc (.cells #[.slice none 0 0] 29)) (.cells #[.int .u8 0] 130)
  rwa [sA,<- a7] at this
 have g8:W8.heap[S+2]?=some (.cells #[.nilFunc] 31 (0,0)):=by
  rw[a6];refine ha _ _ _ _ ?_;have:=qgC ((W4.alloc (.cells #[.slice none 0 0] 29)).alloc (.cells #[.int .u8 0] 130)) (.cells #[.nilFunc] 31)
  rwa [sA,sA,<- a7] at this
 have p8:W8.heap[S+3]?=some (.cells #[.func (.func 150) #[] #[.pointer (some ⟨S,0,none⟩),.pointer (some ⟨S+1,0,none⟩),.pointer (some ⟨S+2,0,none⟩)]] 82 (0,0)):=by
  rw[a6];have:=qgC (((W4.alloc (.cells #[.slice none 0 0] 29)).alloc (.cells #[.int .u8 0] 130)).alloc (.cells #[.nilFunc] 31)) (.cells #[.func (.func 150) #[] #[.pointer (some ⟨S,0,none⟩),.pointer (some ⟨S+1,0,none⟩),.pointer (some ⟨S+1+1,0,none⟩)]] 82)
  rwa [sA,sA,sA,<- a7] at this
 have k0:W4.grownBy W8 none:=by
  rw[a6];exact(((qgs _ _ none).trans (qgs _ _ none)).trans (qgs _ _ none)).trans (qgs _ _ none)
 have cg:W8.cell? ⟨S+1+1,0,none⟩=some .nilFunc:=q9 g8 rfl;have zg:W8.frozen? ⟨S+1+1,0,none⟩=false:=qq g8;have m5:=qgr n8;have m3:=qgr u8;have m6:=qgr g8;have m4:=qgr p8;have b0:=qgr k0;have l5:=qgr a7;have n4:=qgr h9;have m8:=qgr g5;have l4:=qgr c9;clear n8 u8 g8 p8 k0 a7 h9 g5 c9 a6 ha sA k7;go_upto_region 7 with(fail);obtain⟨C,hC⟩:∃C,C=W8.setCell ⟨S+2,0,none⟩ (.func (.func 154) #[] #[.pointer (some ⟨S,0,none⟩),.pointer (some ⟨Bl,0,none⟩),.pointer (some ⟨By,0,none⟩),.pointer (some ⟨S+1,0,none⟩),.pointer (some ⟨S+3,0,none⟩)]):=⟨_,rfl⟩;have eC:W8.setCell ⟨S+1+1,0,none⟩ (.func (.func 154) #[] #[.pointer (some ⟨S,0,none⟩),.pointer (some ⟨Bl,0,none⟩),.pointer (some ⟨By,0,none⟩),.pointer (some ⟨S+1,0,none⟩),.pointer (some ⟨S+1+1+1,0,none⟩)])=C:=hC.symm;rw[eC];clear eC cg zg;have b7:=qh W8 (S+2) 0 (.func (.func 154) #[] #[.pointer (some ⟨S,0,none⟩),.pointer (some ⟨Bl,0,none⟩),.pointer (some ⟨By,0,none⟩),.pointer (some ⟨S+1,0,none⟩),.pointer (some ⟨S+3,0,none⟩)]);rw[<- hC] at b7;have hg2:C.heap[S+2]?=some (.cells #[.func (.func 154) #[] #[.pointer (some ⟨S,0,none⟩),.pointer (some ⟨Bl,0,none⟩),.pointer (some ⟨By,0,none⟩),.pointer (some ⟨S+1,0,none⟩),.pointer (some ⟨S+3,0,none⟩)]] 31 (0,0)):=by rw[hC,qj m6.out];rfl
 have k8:∀k o,k≠S+2->W8.heap[k]?=some o->C.heap[k]?=some o:=λk o hk h=>blk b7 (by simpa using hk) h;have k4:∀k o,W4.heap[k]?=some o->C.heap[k]?=some o:=λk o h=>k8 k o (by have:=qA h;have:=l5.out;omega) (blk b0.out (by simp) h);have k9:=e9.out;have c3:=n3.out;have hS:=l5.out;have hsz:=l4.out;have m7:C.heap.size=W8.heap.size:=by rw[hC];simp[qja]
 have l7:=b0.out.size;have hst:Stp W.heap.size Bl G0 W C:=by
  have h2:=p3.out.trans b9.out;refine⟨?_,?_,?_,?_,λk hk hc=>?_⟩
  ·rw[hC];exact b0.out.os.trans (by rw[a8.out];exact h2.os)
  ·rw[hC];exact b0.out.tape.trans (by rw[a8.out];exact h2.tape)
  ·rw[hC];exact b0.out.output.trans (by rw[a8.out];exact h2.output)
  ·omega
  ·have l9:k≠Bl:=by
    rintro rfl;rcases hc with hc | hc
    ·exact hc.2 rfl
    ·exact hB hc
   have e2:=h2.block k hk (by simp);have e4:W4.heap[k]?=w2.heap[k]?:=by rw[a8.out];exact qic _ _ _ k (λe=>l9 e)
   have e8:=b0.out.block k (by omega) (by simp);rw[b7.block k (by omega) (by simp;omega),e8,e4,e2]
 have a9:∀k,W.heap.size<=k->¬ G0 k:=λk hk h=>by have:=hF _ _ _ h0 k h;omega
 obtain⟨X,hX⟩:∃X:vQ,X={ Bl,By,Bn:=S,Bu:=S+1,Bg:=S+2,Bp:=S+3,n1:=W.heap.size,l,ws,lb,lc,J,Jx,T:=qN ws ws.length [] }:=⟨_,rfl⟩;have hO:JC X:=by
  rw[hX];exact⟨hF,k5,by show W.heap.size<=By;omega,by show By<S;omega,by show S<S+1;omega,by show S+1<S+2;omega,by show S+2<S+3;omega,hJ,hJx,h5,l8,g9,λm pre G x A h1 h2 h3=>q90 rfl m (hY pre G x A h1 h2 (by obtain⟨t,ht⟩:=h3;exact⟨t,by rw[qiH,qjp];exact ht⟩))⟩
 have d7:qe W.heap.size C.heap.size C (.slice lb ws.length lc) ws:=by
  have h:=n6.out;rw[qgF] at h;have h4:=h.kept (qh w2 Bl 0 (.slice lb ws.length lc)) (λR e=>by cases e;left;omega);rw[<- a8.out] at h4;have h8:=h4.kept b0.out (by simp);have hc:=h8.kept b7 (λR e=>by cases e;right;omega);exact hc.mono (by omega) (by omega)
 have e6:It3 X [] G0 C lb lc (.slice none 0 0):=by
  rw[hX];refine⟨k4 _ _ n4.out,d7,λB o e hne=>?_,k4 _ _ m8.out,k8 (S+1) _ (by omega) m3.out,hg2,k8 (S+3) _ (by omega) m4.out,k8 S _ (by omega) m5.out,qjg _ _ _ _,λg e=>by simp[qhp] at e,λ_ _=>rfl,hB,a9 _ (by show W.heap.size<=By;omega),a9 _ (by show W.heap.size<=S;omega),a9 _ (by show W.heap.size<=S+1;omega),a9 _ (by show W.heap.size<=S+2;omega),a9 _ (by show W.heap.size<=S+3;omega)⟩;obtain⟨base,cap,e',hl,hr⟩:=d7;cases e';obtain⟨B',o',cs,fr,e1,e2,e3,e4,e5⟩:=hr hne;rw[e] at e1;cases e1;exact a9 _ e2
 have d8:=q3E X hO ws.length [] (by rw[hX];simp) (by simp) (by simp) [] G0 C (by rw[hX];exact hJ _ _ _ _ h0 hst) (by rw[hX];exact⟨[],by simp⟩) ⟨_,by rw[hX] at e6 ⊢;exact e6⟩;rw[hX] at d8;have cG:C.cell? ⟨S+1+1,0,none⟩=some (.func (.func 154) #[] #[.pointer (some ⟨S,0,none⟩),.pointer (some ⟨Bl,0,none⟩),.pointer (some ⟨By,0,none⟩),.pointer (some ⟨S+1,0,none⟩),.pointer (some ⟨S+3,0,none⟩)]):=q9 hg2 rfl;have n9:=qgr d8;clear d8 e6 hO hX d7 a9 hst m7 l7 hC b7 hg2 k8 k4 k9 c3 hS hsz;go_wp2_with (first | (go_at_call 154;refine(n9.out).mono ?_;rintro e w9 ⟨b',rfl,hR⟩));go_end0;refine⟨⟨_,rfl⟩,?_⟩;obtain⟨G9,-,-,d5⟩:=hR;cases b' with
 | true=>
  obtain⟨xs,e1,e2⟩:=d5;exact .inl ⟨xs,G9,e1,by simpa using e2⟩
 | false=>
  obtain⟨xs,t,e1,e2⟩:=d5;exact .inr ⟨xs,G9,⟨t,e1⟩,by simpa using e2⟩
theorem Yw(b:Option qi2)(n c:Nat)(w:qgt):qhx Ya 117 #[.slice b n c] w λe w'=>e=.returned (.func (.func 149) #[] #[.pointer (some ⟨w.heap.size,0,none⟩)])/\w'=w.alloc (.cells #[.slice b n c] 29):=by
 go_enter Tp.x117,Tryz.ntmps117;go_wp2;go_ret;exact⟨rfl,rfl⟩
theorem Zt(n:Nat)(Bl:Nat)(b:Option qi2)(c:Nat)(ll ws:List Int)(hS:Qg ll ws)(h5:∀x∈ws,0<=x/\x<5)(a8:ws.Nodup)(a6:ws.length<=5)(w0:qgt)(a7:w0.heap[Bl]?=some (.cells #[.slice b ll.length c] 29 (0,0)))(hI:qe 0 w0.heap.size w0 (.slice b ll.length c) ll) :qgf Fence.wide n Ya 149 #[.pointer (some ⟨Bl,0,none⟩)] (λx:List Int × qgx=>#[x.2]) (xpO ws) (λxs=>xs.map ql2=qN ws ws.length []) (λpre=>∃t,qN ws ws.length []=pre.map ql2++t) Bl w0:=λl J Jx G0 W hb hB hF hJ hJx hY h0=>
 qjt.2 (q5m (n - 1) Bl b c ll ws hS h5 a8 a6 l J Jx G0 W ((hb.block Bl (qA a7)).trans a7) ((hI.kept (vJ hb) (by simp)).mono (qgw _) hb.size) hB hF hJ hJx hY h0)
theorem q3G(lo hi:Nat)(yv qv:qgx)(ps:List Par)(lim:Int)(l:List Int)(w:qgt)(e8:jo lo hi w yv ps lim)(hI:qe lo hi w qv l)(hhi:hi<=w.heap.size)(hok:YOk ps lim)(hp:PIn ps l) :qhx Ya 114 #[yv,qv] w λe w'=>e=.returned (.bool (decide (qK ps l<=lim) && qu ps (pre Par.mx ps ps.length) l))/\w.grownBy w' none:=by
 obtain⟨pv,rfl,hP⟩:=e8;obtain⟨yb,yc,rfl,g9,-⟩:=hP.cell;obtain⟨base,cap,rfl,h8,-⟩:=hI.cell;obtain⟨Y,b9⟩:∃Y,Y=w.heap.size:=⟨_,rfl⟩;obtain⟨w3,b6⟩:∃w3,w3=w.alloc (.cells #[.slice yb ps.length yc,.int .i64 lim] 91):=⟨_,rfl⟩;have a9:w.grownBy w3 none:=by rw[b6];exact qgs _ _ none
 have d9:w3.heap[Y]?=some (.cells #[.slice yb ps.length yc,.int .i64 lim] 91 (0,0)):=by rw[b6,b9];exact qgC w _
 have e7:=qgr d9;have e6:=qgr a9;have g7:=qgr (hI.kept a9 (by simp));have g6:=qgr (hP.kept a9 (by simp));have g5:=qgr b6;have e9:=qgr b9;have HY:=qgr hok;have a7:=qgr hp;have a8:hi<=w3.heap.size:=qgE hhi a9.size;clear a9 d9 b6 b9 hI hP hok hp;go_enter Tp.x114,Tryz.ntmps114;go_upto_region 1 with(fail);rw[<- e9.out,show w.alloc (.cells #[.slice yb ps.length yc,.int .i64 lim] 91)=w3 from g5.out.symm];have HT:=qgr (qh6 w3 none);have d5:∀W,w3.grownBy W none->jo lo hi W (.agg #[.slice yb ps.length yc,.int .i64 lim]) ps lim:=λW h=>⟨_,rfl,g6.out.kept h (by simp)⟩;have d7:∀W,w3.grownBy W none->qe lo hi W (.slice base l.length cap) l:=λW h=>g7.out.kept h (by simp);have d6:∀W,w3.grownBy W none->W.cell? ⟨Y,0,none⟩=some (.slice yb ps.length yc)/\W.cell? ⟨Y,1,none⟩=some (.int .i64 lim):=λW h=>
  ⟨q9 (blk h (by simp) e7.out) rfl,q9 (blk h (by simp) e7.out) rfl⟩
 have b7:=qgr d5;have c8:=qgr d7;have b0:=qgr d6;clear d5 d7 d6;have SC:=qgr (b0.out w3 (qh6 w3 none));obtain⟨gx,b8⟩:∃gx,gx=pre Par.mx ps ps.length:=⟨_,rfl⟩;have d8:∀i,0<=gx i/\gx i<=1000:=by rw[b8];exact HY.out.mx
 have e5:=qgr b8;have g8:=qgr d8;clear b8 d8;have HC:=qgr (show Kc ps lim l=if qK ps l<=lim then 0 else 10 from rfl);by_cases a6:qK ps l<=lim
 ·have HD:=qgr (show decide (qK ps l<=lim)=true by simpa using a6);have c9:=qgr (HC.out.trans (if_pos a6));clear a6;go_region_held3 (λw'=>w'.cell? ⟨Y,0,none⟩=some (.slice yb ps.length yc)/\w'.cell? ⟨Y,1,none⟩=some (.int .i64 lim))
   (first | exact SC.out)
   (first
    | (go_at_call 133;refine(kZ lo hi _ _ ps lim l _ (b7.out _ (by first | exact HT.out | exact HT.out.trans (qg _ _))) (c8.out _ (by first | exact HT.out | exact HT.out.trans (qg _ _))) (qgE a8 (by first | exact HT.out.size | exact(HT.out.trans (qg _ none)).size)) HY.out.len a7.out.ok a7.out.nd (λp hp=>by have:=HY.out.each p hp;omega) a7.out.len).mono ?_;rintro e w5 ⟨rfl,hg⟩;rw[c9.out];replace HT:=qgr (show w3.grownBy w5 none by first | exact HT.out.trans hg | exact(HT.out.trans (qg _ _)).trans hg);replace SC:=qgr (b0.out w5 HT.out);clear hg)
    | (go_at_call 92;refine(xZ lo hi _ ps lim _ (b7.out _ (by first | exact HT.out | exact HT.out.trans (qg _ _))) (qgE a8 (by first | exact HT.out.size | exact(HT.out.trans (qg _ none)).size)) HY.out.len).mono ?_;rintro e w5 ⟨rfl,hg⟩;rw[<- e5.out];replace HT:=qgr (show w3.grownBy w5 none by first | exact HT.out.trans hg | exact(HT.out.trans (qg _ _)).trans hg);replace SC:=qgr (b0.out w5 HT.out);clear hg)
    | (go_at_call 96;refine(kr lo hi _ _ ps lim l _ _ (b7.out _ (by first | exact HT.out | exact HT.out.trans (qg _ _))) (c8.out _ (by first | exact HT.out | exact HT.out.trans (qg _ _))) (qgE a8 (by first | exact HT.out.size | exact(HT.out.trans (qg _ none)).size)) HY.out.len a7.out.ok (by have:=a7.out.len;omega) g8.out).mono ?_;rintro e w5 ⟨rfl,hg⟩;replace HT:=qgr (show w3.grownBy w5 none by first | exact HT.out.trans hg | exact(HT.out.trans (qg _ _)).trans hg);replace SC:=qgr (b0.out w5 HT.out);clear hg))
  all_goals
   have HV:=qgr (show qu ps (pre Par.mx ps ps.length) l=qu ps gx l by rw[e5.out]);generalize qu ps gx l=z at HV ⊢;go_wp2;go_ret;exact⟨by rw[HV.out,HD.out];rfl,e6.out.trans HT.out⟩
 ·have HD:=qgr (show decide (qK ps l<=lim)=false by simpa using a6);have c9:=qgr (HC.out.trans (if_neg a6));clear a6;refine qU 11 (λw'=>w'.cell? ⟨Y,0,none⟩=some (.slice yb ps.length yc)/\w'.cell? ⟨Y,1,none⟩=some (.int .i64 lim)) (by kernel_rfl) (by kernel_rfl) SC.out (λc3=>?_);simp only[qh1,qh7,qhj,qir,qhd,qhr,qhs,qi1,qhn,qha];refine tk 0 (h:=tk 1 (h:=?_));try go_frame
  refine rdy [2] ?_;refine cns 2 (λK hK=>?_) ?_
  ·go_simp;go_at_call 133;refine(kZ lo hi _ _ ps lim l _ (b7.out _ (HT.out.trans (qg _ _))) (c8.out _ (HT.out.trans (qg _ _))) (qgE a8 (HT.out.trans (qg _ none)).size) HY.out.len a7.out.ok a7.out.nd (λp hp=>by have:=HY.out.each p hp;omega) a7.out.len).mono ?_;rintro e w5 ⟨rfl,hg⟩;rw[c9.out];have e4:=qgr ((HT.out.trans (qg _ _)).trans hg);clear hg;refine hK.out _ _ (b0.out w5 e4.out) (λc3=>?_);clear hK K;try go_frame
   refine tk 3 (h:=tk 4 (h:=tku 5 (h:=tku 6 (h:=tku 7 (h:=tku 8 (h:=tku 9 (h:=tk 10 (h:=?_))))))));try go_frame
   refine⟨by kernel_rfl,?_⟩;simp only[qhA,qio];go_wp2;go_ret;exact⟨by rw[HD.out];rfl,e6.out.trans e4.out⟩
  ·exact qp.nil
def j5(ps:List Par)(lim:Int)(l:List Int):Bool:=decide (qK ps l<=lim) && qu ps (pre Par.mx ps ps.length) l
theorem q1y(lo hi:Nat)(yv qv:qgx)(ps:List Par)(lim:Int)(l:List Int)(w:qgt)(a6:jo lo hi w yv ps lim)(hI:qe lo hi w qv l)(hhi:hi<=w.heap.size)(hok:YOk ps lim)(hp:POk ps lim l) :qhx Ya 114 #[yv,qv] w λe w'=>e=.returned (.bool (qu ps (pre Par.mx ps ps.length) l))/\w.grownBy w' none:=by
 have h:=q3G lo hi yv qv ps lim l w a6 hI hhi hok hp.pin
 rwa [show decide (qK ps l<=lim)=true by simpa using hp.tall,qm9] at h
end
section
open Go.RowKit Go.Shelf
attribute [local go_sem] Oper.semAt_some
structure Frm(w3:qgt)(Bl:Nat)(W:qgt):Prop where
 os:W.os=w3.os
 tape:W.tape=w3.tape
 output:W.output=w3.output
 size:w3.heap.size<=W.heap.size
 keep:∀k,k<w3.heap.size->k≠Bl->W.heap[k]?=w3.heap[k]?
theorem Frm.refl(w3:qgt)(Bl:Nat):Frm w3 Bl w3:=⟨rfl,rfl,rfl,qgw _,λ_ _ _=>rfl⟩
theorem Frm.stp{w3:qgt}{Bl:Nat}{G:Nat->Prop}{A C:qgt}(h:Frm w3 Bl A)(hs:Stp w3.heap.size Bl G A C):Frm w3 Bl C :=
 ⟨hs.os.trans h.os,hs.tape.trans h.tape,hs.output.trans h.output,qgE h.size hs.size,λk hk hn=>(hs.keep k (qh2 hk h.size) (.inl ⟨hk,hn⟩)).trans (h.keep k hk hn)⟩
theorem Frm.grown{w3:qgt}{Bl:Nat}{A C:qgt}(h:Frm w3 Bl A)(hg:A.grownBy C none):Frm w3 Bl C :=
 ⟨hg.os.trans h.os,hg.tape.trans h.tape,hg.output.trans h.output,qgE h.size hg.size,λk hk hn=>(hg.block k (qh2 hk h.size) (by simp)).trans (h.keep k hk hn)⟩
theorem q0E{w w3 C E:qgt}{D:Nat}(a6:w.grownBy w3 none)(o:C.os=w3.os/\C.tape=w3.tape/\C.output=w3.output/\w3.heap.size<=C.heap.size/\∀k,k<w.heap.size->C.heap[k]?=w3.heap[k]?)(hg:C.grownBy E (some D))(hD:w.heap.size<=D):w.grownBy E none :=
 ⟨hg.os.trans (o.1.trans a6.os),hg.tape.trans (o.2.1.trans a6.tape),hg.output.trans (o.2.2.1.trans a6.output),qgE a6.size (qgE o.2.2.2.1 hg.size),λk hk _=>
  (hg.block k (qh2 hk (qgE a6.size o.2.2.2.1)) (by intro e;cases e;omega)).trans ((o.2.2.2.2 k hk).trans (a6.block k hk (by simp)))⟩
def KB:Nat->Prop:=λ_=>False
theorem q6i{ws:List Int}(x:List Int × qgx)(A:qgt)(l:Nat)(o o':Obj)(h:A.heap[l]?=some o)(hc:o.isCells=false)(hx:xpO ws x A):xpO ws x (A.putObj l o'):=by
 obtain⟨⟨base,cap,e,hl,hr⟩,h2⟩:=hx;refine⟨⟨base,cap,e,hl,λhne=>?_⟩,h2⟩;obtain⟨B,o2,cs,fr,e1,e2,e3,e4,e5⟩:=hr hne;have hg:=qko A l o';exact⟨B,o2,cs,fr,e1,e2,qh2 e3 hg.size,(hg.block B e3 (λe=>by cases e;rw[h] at e4;cases e4;cases hc)).trans e4,e5⟩
theorem q0B(yv qv:qgx)(ps:List Par)(lim:Int)(ll ws:List Int)(w:qgt)(m3:jo 0 w.heap.size w yv ps lim)(hI:qe 0 w.heap.size w qv ll)(hok:YOk ps lim)(hS:Qg ll ws)(h5:∀x∈ws,0<=x/\x<5)(l9:ws.Nodup)(g7:ws.length<=5)(l8:∀x:List Int,x.length=ws.length->x.Nodup->(∀y∈x,y∈ws)->PIn ps x) :qhx Ya 102 #[yv,qv] w λe w'=>w.grownBy w' none/\((∃x v,(qN ws ws.length []).find? (j5 ps lim)=some x/\e=.returned (.tuple #[v,.bool true])/\qe w.heap.size w'.heap.size w' v x) \/((qN ws ws.length []).find? (j5 ps lim)=none/\e=.returned (.tuple #[.slice none 0 0,.bool false]))):=by
 obtain⟨pv,rfl,hP⟩:=m3;obtain⟨yb,yc,rfl,p5,-⟩:=hP.cell;obtain⟨base,cap,rfl,p7,-⟩:=hI.cell;obtain⟨Y,b0⟩:∃Y,Y=w.heap.size:=⟨_,rfl⟩;refine(qjt (n:=6)).1 ?_;refine qnG Tp.x102 rfl trivial ?_ rfl;simp only[Tryz.ntmps102,qhk,qh1,qh7,qhj,qir,qhr,qhs,qi1,qke,qhn,qha]
 gi_wp2_with (first | (refine⟨trivial,?_⟩;gi_at_call 117;refine(qjt.2 (Yw _ _ _ _)).mono ?_;rintro e w2 ⟨rfl,rfl⟩))
 obtain⟨w3,a9⟩:∃w3,w3=(((w.alloc (.cells #[.slice yb ps.length yc,.int .i64 lim] 91)).alloc (.cells #[.slice none 0 0] 29)).alloc (.cells #[.bool false] 4)).alloc (.cells #[.slice base ll.length cap] 29):=⟨_,rfl⟩;have e3:(((w.alloc (.cells #[.slice yb ps.length yc,.int .i64 lim] 91)).alloc (.cells #[.slice none 0 0] 29)).alloc (.cells #[.bool false] 4)).alloc (.cells #[.slice base ll.length cap] 29)=w3:=a9.symm;rw[e3];clear e3;rw[<- b0];have sA:∀(w:qgt) (o:Obj),(w.alloc o).heap.size=w.heap.size+1:=λw o=>qgF w o;have ha:∀(w:qgt) (o:Obj) (k:Nat) (p:Obj),w.heap[k]?=some p->(w.alloc o).heap[k]?=some p:=λw o k p h=>qr h;have d6:w.grownBy w3 none:=by
  rw[a9];exact(((qgs _ _ none).trans (qgs _ _ none)).trans (qgs _ _ none)).trans (qgs _ _ none)
 have l7:w3.heap.size=Y+4:=by rw[a9,sA,sA,sA,sA,b0]
 have y3:w3.heap[Y]?=some (.cells #[.slice yb ps.length yc,.int .i64 lim] 91 (0,0)):=by rw[a9,b0];exact ha _ _ _ _ (ha _ _ _ _ (ha _ _ _ _ (qgC w _)))
 have r3:w3.heap[Y+1]?=some (.cells #[.slice none 0 0] 29 (0,0)):=by
  rw[a9];refine ha _ _ _ _ (ha _ _ _ _ ?_);have:=qgC (w.alloc (.cells #[.slice yb ps.length yc,.int .i64 lim] 91)) (.cells #[.slice none 0 0] 29)
  rwa [sA,<- b0] at this
 have b3:w3.heap[Y+2]?=some (.cells #[.bool false] 4 (0,0)):=by
  rw[a9];refine ha _ _ _ _ ?_;have:=qgC ((w.alloc (.cells #[.slice yb ps.length yc,.int .i64 lim] 91)).alloc (.cells #[.slice none 0 0] 29)) (.cells #[.bool false] 4)
  rwa [sA,sA,<- b0] at this
 have l3:w3.heap[Y+3]?=some (.cells #[.slice base ll.length cap] 29 (0,0)):=by
  rw[a9];have:=qgC (((w.alloc (.cells #[.slice yb ps.length yc,.int .i64 lim] 91)).alloc (.cells #[.slice none 0 0] 29)).alloc (.cells #[.bool false] 4)) (.cells #[.slice base ll.length cap] 29)
  rwa [sA,sA,sA,<- b0] at this
 have m5:=(hI.kept d6 (by simp)).mono (qgw _) d6.size;have n7:=qgr ((hP.kept d6 (by simp)));have k7:=qgr r3;have l4:=qgr b3;have m9:=qgr y3;have q0:=qgr l7;have k8:=qgr d6;have d9:=qgr b0;clear sA ha a9 hI hP r3 b3 y3 d6 b0;refine vh rfl (by omega) (gf:=149) (lb:=#[.pointer (some ⟨Y+3,0,none⟩)]) rfl trivial (enters_of Tp.x149 (by kernel_rfl) rfl)
  (Zt 5 (Y+3) base cap ll ws hS h5 l9 g7 w3 l3 m5) (qn0 _ _) (λ_=>rfl) (G0:=KB) (λh=>h) (by omega) (q6i)
  (λpr G W=>(∀x∈pr.map ql2,j5 ps lim x=false)/\G=KB/\Frm w3 (Y+3) W)
  (λc pr G W=>c=.ret/\∃q x v lo hi,pr.map ql2=q++[x]/\(∀y∈q,j5 ps lim y=false)/\j5 ps lim x=true/\(W.os=w3.os/\W.tape=w3.tape/\W.output=w3.output/\w3.heap.size<=W.heap.size/\∀k,k<Y->W.heap[k]?=w3.heap[k]?) /\
   W.heap[Y+1]?=some (.cells #[v] 29 (0,0))/\W.heap[Y+2]?=some (.cells #[.bool true] 4 (0,0))/\qe lo hi W v x/\(∀k,lo<=k->k<hi->G k)/\hi<=W.heap.size/\Y<=lo)
  (λs G A h k hk=>by rw[h.2.1] at hk;exact hk.elim)
  (λs G A C h hst=>⟨h.1,h.2.1,h.2.2.stp hst⟩)
  (λc s G A C h hst=>by
   obtain⟨hc,q,x,v,lo,hi,h1,h2,h3,⟨o1,o2,o3,o4,o5⟩,h4,h5,h6,h7,h8,h9⟩:=h;refine⟨hc,q,x,v,lo,hi,h1,h2,h3,⟨hst.os.trans o1,hst.tape.trans o2,hst.output.trans o3,qgE o4 hst.size,λk hk=>(hst.keep k (by omega) (.inl ⟨by omega,by omega⟩)).trans (o5 k hk)⟩,(hst.keep _ (qA h4) (.inl ⟨by omega,by omega⟩)).trans h4,(hst.keep _ (qA h5) (.inl ⟨by omega,by omega⟩)).trans h5,?_,h7,qgE h8 hst.size,h9⟩;obtain⟨b',c',e,hl,hr⟩:=h6;refine⟨b',c',e,hl,λhne=>?_⟩;obtain⟨B,o,cs,fr,e1,e2,e3,e4,e5⟩:=hr hne;exact⟨B,o,cs,fr,e1,e2,e3,(hst.keep B (by omega) (.inr (h7 B e2 e3))).trans e4,e5⟩)
  ⟨by simp,rfl,Frm.refl _ _⟩
  (λx=>{ tmps:=#[.agg #[.slice yb ps.length yc,.int .i64 lim],.slice base ll.length cap,.pointer (some ⟨Y,0,none⟩),qgz,.pointer (some ⟨Y+1,0,none⟩),.pointer (some ⟨Y+1+1,0,none⟩),x.2,.slice base ll.length cap,.func (.func 149) #[] #[.pointer (some ⟨Y+1+1+1,0,none⟩)],x.2,qgz,qgz,qgz,qgz,qgz],defers:=[] }) ?assign ?body ?done ?stop
 case assign=>
  intro l x W K hK
  gi_wp2
  exact hK
 case body=>
  rintro l pr G x W ⟨c9,rfl,a6⟩ hx -
  have e7:=(a6.keep Y (by omega) (by omega)).trans m9.out;have g6:=(a6.keep (Y+1) (by omega) (by omega)).trans k7.out;have k0:=(a6.keep (Y+2) (by omega) (by omega)).trans l4.out;have k5:qw 0 W.heap.size W (.slice yb ps.length yc) ps:=by
   obtain⟨b',c',e,hl,hr⟩:=n7.out;refine⟨b',c',e,hl,λhne=>?_⟩;obtain⟨B,o,cs,fr,e1,e2,e3,e4,e5⟩:=hr hne;have:=d9.out;have:=a6.size;exact⟨B,o,cs,fr,e1,e2,by omega,(a6.keep B (by omega) (by omega)).trans e4,e5⟩
  obtain⟨d7,b7⟩:=hx;have c8:=l8 x.1 b7.1 b7.2.1 b7.2.2.1;have hxl:x.1.length<=5:=by have:=b7.1;omega
  obtain⟨x1,x2⟩:=x;obtain⟨xb,xc,g5,-,-⟩:=d7.cell;dsimp only at g5 c8 hxl b7;subst g5;have c1:W.cell? ⟨Y,0,none⟩=some (.slice yb ps.length yc):=q9 e7 rfl;have c2:W.cell? ⟨Y,1,none⟩=some (.int .i64 lim):=q9 e7 rfl;obtain⟨z,hz⟩:∃z,z=j5 ps lim x1:=⟨_,rfl⟩;have g9:qhx Ya 114 #[.agg #[.slice yb ps.length yc,.int .i64 lim],.slice xb x1.length xc] W λe w'=>e=.returned (.bool z)/\W.grownBy w' none:=by
   rw[hz];exact q3G 0 W.heap.size _ _ ps lim x1 W ⟨_,rfl,k5⟩ d7 (qgw _) hok c8
  have k9:=qgr g9;have HZ:=qgr hz;have n2:=qgr (show qe 0 W.heap.size W (.slice xb x1.length xc) x1 from d7);have n3:=qgr b7;have a7:=qgr a6;have e6:=qgr c9;have n4:=qgr g6;have p3:=qgr k0;clear g9 hz d7 b7 a6 c9 g6 k0 e7 k5 c8;cases z with
  | false=>
   gi_wp2_with (first | (refine⟨trivial,?_⟩;gi_at_call 114;refine(CallsIn.inRound l (qjt.2 k9.out)).mono ?_;rintro e w5 ⟨rfl,b8⟩))
   refine⟨KB,⟨b8.tape,b8.size,λk hk _ _=>b8.block k hk (by simp),λk hk=>hk.elim⟩,?_,rfl,a7.out.grown b8⟩;intro y hy;rw[qiH] at hy;rcases qiF.1 hy with h | h
   ·exact e6.out y h
   ·have e:y=x1:=by simpa using h
    rw[e,<- HZ.out]
  | true=>
   have p6:=a7.out.size
   gi_wp2_with (first
    | (refine⟨trivial,?_⟩;gi_at_call 114;refine(CallsIn.inRound l (qjt.2 k9.out)).mono ?_;rintro e w5 ⟨rfl,b8⟩;have a8:=qgr b8;clear b8)
    | (refine⟨trivial,?_⟩;gi_at_call 84;refine(CallsIn.inRound l (qjt.2 (J9 0 w5.heap.size _ x1 w5 ((n2.out.kept a8.out (by simp)).mono (qgw _) a8.out.size) (qgw _) n3.out.2.2.2 (by omega)))).mono ?_;rintro e w6 ⟨v',rfl,d8,e9⟩;obtain⟨vb,vc,rfl,-,-⟩:=e9.cell;have r6:=blk (a8.out.trans d8) (by simp) n4.out;have b6:=blk (a8.out.trans d8) (by simp) p3.out;have m8:=q9 (o:=0) r6 rfl;have l6:=qq (o:=0) r6;have m7:=q9 (o:=0) b6 rfl;have l5:=qq (o:=0) b6;have c3:=qgr d8;have n9:=qgr e9;have n6:=qgr r6;have p4:=qgr b6;clear d8 e9 r6 b6))
   have p9:=a8.out.size;have p8:=c3.out.size;have e8:=d9.out;obtain⟨C,hC⟩:∃C,C=(w6.setCell ⟨Y+1,0,none⟩ (.slice vb x1.length vc)).setCell ⟨Y+2,0,none⟩ (.bool true):=⟨_,rfl⟩;have eC:(w6.setCell ⟨Y+1,0,none⟩ (.slice vb x1.length vc)).setCell ⟨Y+1+1,0,none⟩ (.bool true)=C:=hC.symm;rw[eC];have b9:∀k,k≠Y+1->k≠Y+2->C.heap[k]?=w6.heap[k]?:=λk k1 k2=>by
    rw[hC];exact(qic _ _ _ k (λe=>k2 e)).trans (qic _ _ _ k (λe=>k1 e))
   have cr:C.heap[Y+1]?=some (.cells #[.slice vb x1.length vc] 29 (0,0)):=by
    rw[hC,qic _ _ _ (Y+1) (λe=>by have e':Y+1=Y+2:=e;omega),qj n6.out];rfl
   have cb:C.heap[Y+2]?=some (.cells #[.bool true] 4 (0,0)):=by
    rw[hC,qj ((qic _ _ _ (Y+2) (λe=>by have e':Y+2=Y+1:=e;omega)).trans p4.out)];rfl
   have cs:C.heap.size=w6.heap.size:=by rw[hC];simp[qja]
   have k6:∀k,k<W.heap.size->w6.heap[k]?=W.heap[k]?:=λk hk=>(c3.out.block k (by omega) (by simp)).trans (a8.out.block k hk (by simp));refine⟨λk=>w5.heap.size<=k/\k<w6.heap.size,⟨?_,by omega,λk hk hn _=>?_,λk hk=>.inr (by have:=hk.1;omega)⟩,rfl,pr.map ql2,x1,.slice vb x1.length vc,w5.heap.size,w6.heap.size,by simp,e6.out,HZ.out.symm,⟨?_,?_,?_,by omega,λk hk=>?_⟩,cr,cb,?_,λk h1 h2=>⟨h1,h2⟩,by omega,by omega⟩
   ·rw[hC];exact c3.out.tape.trans a8.out.tape
   ·rw[b9 k (by omega) (by omega)];exact k6 k hk
   ·rw[hC];exact(c3.out.os.trans a8.out.os).trans a7.out.os
   ·rw[hC];exact(c3.out.tape.trans a8.out.tape).trans a7.out.tape
   ·rw[hC];exact(c3.out.output.trans a8.out.output).trans a7.out.output
   ·rw[b9 k (by omega) (by omega),k6 k (by omega)];exact a7.out.keep k (by omega) (by omega)
   ·obtain⟨b',c',e,hl,hr⟩:=n9.out;refine⟨b',c',e,hl,λhne=>?_⟩;obtain⟨B,o,cs',fr,e1,e2,e3,e4,e5⟩:=hr hne;exact⟨B,o,cs',fr,e1,e2,e3,(b9 B (by omega) (by omega)).trans e4,e5⟩
 case done=>
  rintro D ys G W hD hxs ⟨c9,rfl,a6⟩ hK m6;have r6:=(a6.keep (Y+1) (by omega) (by omega)).trans k7.out;have b6:=(a6.keep (Y+2) (by omega) (by omega)).trans l4.out;have m8:=q9 (o:=0) r6 rfl;have l6:=qq (o:=0) r6;have m7:=q9 (o:=0) b6 rfl;have l5:=qq (o:=0) b6;have a7:=qgr a6;have e6:=qgr c9;clear a6 c9
  gi_wp2
  have e8:=d9.out;obtain⟨C,hC⟩:∃C,C=(W.setCell ⟨Y+1,0,none⟩ (.slice none 0 0)).setCell ⟨Y+2,0,none⟩ (.bool false):=⟨_,rfl⟩;have eC:(W.setCell ⟨Y+1,0,none⟩ (.slice none 0 0)).setCell ⟨Y+1+1,0,none⟩ (.bool false)=C:=hC.symm;rw[eC];have b9:∀k,k≠Y+1->k≠Y+2->C.heap[k]?=W.heap[k]?:=λk k1 k2=>by
   rw[hC];exact(qic _ _ _ k (λe=>k2 e)).trans (qic _ _ _ k (λe=>k1 e))
  have cr:C.heap[Y+1]?=some (.cells #[.slice none 0 0] 29 (0,0)):=by
   rw[hC,qic _ _ _ (Y+1) (λe=>by have e':Y+1=Y+2:=e;omega),qj r6];rfl
  have cb:C.heap[Y+2]?=some (.cells #[.bool false] 4 (0,0)):=by
   rw[hC,qj ((qic _ _ _ (Y+2) (λe=>by have e':Y+2=Y+1:=e;omega)).trans b6)];rfl
  have m4:C.heap[D]?=some (.deferred (some [])):=(b9 D (by omega) (by omega)).trans hK;have hg:=qko C D (.deferred none);have er:=(hg.block (Y+1) (qA cr) (by simp;omega)).trans cr;have eb:=(hg.block (Y+2) (qA cb) (by simp;omega)).trans cb;have cs:C.heap.size=W.heap.size:=by rw[hC];simp[qja]
  have hfs:=a7.out.size;refine⟨by simp,.inl ⟨_,_,rfl,qnl m4,?_⟩⟩;refine⟨.tuple #[.slice none 0 0,.bool false],by simp[qk1,qqy,go_sem,qhu,er,eb],?_,.inr ⟨?_,rfl⟩⟩
  ·refine q0E k8.out ⟨by rw[hC];exact a7.out.os,by rw[hC];exact a7.out.tape,by rw[hC];exact a7.out.output,by omega,λk hk=>?_⟩ hg (by omega);rw[b9 k (by omega) (by omega)];exact a7.out.keep k (by omega) (by omega)
  ·rw[<- hxs];exact qlG.2 λy hy=>by rw[e6.out y hy];simp
 case stop=>
  rintro D c pr G W hD ⟨t,ht⟩ ⟨rfl,h⟩ hK m6;obtain⟨q,x,v,lo,hi,h1,h2,h3,ho,cr,cb,g8,-,h8,h9⟩:=h;have e8:=d9.out;have hg:=qko W D (.deferred none);have er:=(hg.block (Y+1) (qA cr) (by simp;omega)).trans cr;have eb:=(hg.block (Y+2) (qA cb) (by simp;omega)).trans cb;have d5:qe w.heap.size (W.putObj D (.deferred none)).heap.size (W.putObj D (.deferred none)) v x:=by
   obtain⟨b',c',e,hl,hr⟩:=g8;refine⟨b',c',e,hl,λhne=>?_⟩;obtain⟨B,o,cs',fr,e1,e2,e3,e4,e5⟩:=hr hne;exact⟨B,o,cs',fr,e1,by omega,qh2 e3 (qgE h8 hg.size),(hg.block B (by omega) (λe=>by cases e;rw[hK] at e4;cases e4)).trans e4,e5⟩
  obtain⟨vb,vc,rfl,-,-⟩:=d5.cell;have n8:=qgr d5;have HO:=qgr ho;have HH:=qgr (qhb h1 (qhb h2 h3));have HT:=qgr ht;clear g8 d5 ho h1 h2 h3 ht
  gi_wp2
  refine⟨by simp,.inl ⟨_,_,rfl,qnl hK,?_⟩⟩;refine⟨.tuple #[.slice vb x.length vc,.bool true],by simp[qk1,qqy,go_sem,qhu,er,eb],?_,.inl ⟨x,_,?_,rfl,n8.out⟩⟩
  ·exact q0E k8.out (by rw[<- e8];exact HO.out) hg (by omega)
  ·rw[HT.out,HH.out.1,qjp];rw[List.find?_append,qlG.2 (λy hy=>by rw[HH.out.2.1 y hy];simp)];simp[HH.out.2.2]
end
section
open Go.RowKit
theorem q3j{n:Nat}{x:Int}(h:x∈zo n):0<=x/\x<n:=by
 simp only[zo,qkn,qj3] at h;obtain⟨i,hi,rfl⟩:=h;omega
theorem q1t(n:Nat):(zo n).Pairwise (·<·):=by
 unfold zo;rw[List.pairwise_map];exact List.pairwise_lt_range.imp λh=>by omega
theorem q35{l:List Int}(h:l.Pairwise (·<·)):l.Nodup:=h.imp λh=>by omega
theorem xT{l:List Int}(a6:l.length<=12)(h:l.Pairwise (·<·)):Qg l l:=q7y a6 λi hi=>by
 rw[qgB (by omega),qgB hi];exact Int.le_of_lt (List.pairwise_iff_getElem.1 h i (i+1) (by omega) hi (by omega))
def kX(c:List Int):List (List Int):=qN c c.length []
def q02(ps:List Par)(lim:Int)(b:Bool × List Int)(c:List Int):Bool × List Int :=
 match (kX c).find? (j5 ps lim) with
 | some p=>(true,if b.1=true/\Zz p b.2=false then b.2 else p)
 | none=>b
def jY(ps:List Par)(lim:Int)(L:List (List Int)):Bool × List Int:=L.foldl (q02 ps lim) (false,[])
theorem xe(ps:List Par)(lim:Int)(L:List (List Int))(c:List Int):jY ps lim (L++[c])=q02 ps lim (jY ps lim L) c:=by simp[jY]
def q7h(ps:List Par)(lim:Int)(B:Nat)(w0:qgt)(done:List (List Int))(G:Nat->Prop)(W:qgt):Prop :=
 G=KB/\w0.grownBy W (some B)/\∃bv,W.heap[B]?=some (.cells #[.func (.func 98) #[] #[],bv,.bool (jY ps lim done).1] 108 (0,0))/\qe 0 W.heap.size W bv (jY ps lim done).2
theorem qe.keptT{lo hi O:Nat}{w w':qgt}{v:qgx}{l:List Int}(h:qe lo hi w v l)(hg:w.grownBy w' (some O)){cs':Array qgx}{e':qh5}{f':Nat × Nat}(hO:w.heap[O]?=some (.cells cs' e' f'))(hne:e'≠3):qe lo hi w' v l:=by
 obtain⟨base,cap,rfl,hl,hr⟩:=h;refine⟨base,cap,rfl,hl,λhn=>?_⟩;obtain⟨B,o,cs,fr,e1,e2,e3,e4,e5⟩:=hr hn;refine⟨B,o,cs,fr,e1,e2,e3,blk hg (λe=>?_) e4,e5⟩;cases e;rw[e4] at hO;cases hO;exact hne rfl
theorem q83(ps:List Par)(lim:Int)(Y B:Nat)(w0:qgt)(yb:Option qi2)(yc:Nat)(b9:w0.heap[Y]?=some (.cells #[.slice yb ps.length yc,.int .i64 lim] 91 (0,0)))(d9:qw 0 w0.heap.size w0 (.slice yb ps.length yc) ps){e6:Array qgx}{f0:Nat × Nat}(d5:w0.heap[B]?=some (.cells e6 108 f0))(hok:YOk ps lim)(c:List Int)(b7:c.Pairwise (·<·))(hcm:∀x∈c,0<=x/\x<ps.length)(hcl:c.length<=5)(d8:Y≠B)(done:List (List Int))(W:qgt)(hI:q7h ps lim B w0 done KB W)(v:qgx)(hv:qe 0 W.heap.size W v c) :qhx Ya 101 #[v,.pointer (some ⟨Y,0,none⟩),.pointer (some ⟨B,0,none⟩)] W λe W'=>e=.returned (.bool false)/\q7h ps lim B w0 (done++[c]) KB W'/\W.grownBy W' (some B):=by
 obtain⟨-,a7,bv,hB,b8⟩:=hI;obtain⟨vb,vc,rfl,-,-⟩:=hv.cell;have a9:W.heap[Y]?=some (.cells #[.slice yb ps.length yc,.int .i64 lim] 91 (0,0)):=(a7.block Y (qA b9) (λe=>d8 (by cases e;rfl))).trans b9;have c3:qw 0 W.heap.size W (.slice yb ps.length yc) ps:=by
  obtain⟨b',c',e,hl,hr⟩:=d9;refine⟨b',c',e,hl,λhne=>?_⟩;obtain⟨B',o,cs,fr,e1,e2,e3,e4,e5⟩:=hr hne;cases e;exact⟨B',o,cs,fr,e1,e2,qh2 e3 a7.size,(a7.block B' e3 (λe'=>by cases e';rw[e4] at d5;cases d5)).trans e4,e5⟩
 have c0:W.cell? ⟨Y,0,none⟩=some (.slice yb ps.length yc):=q9 a9 rfl;have c1:W.cell? ⟨Y,1,none⟩=some (.int .i64 lim):=q9 a9 rfl;have a8:=q0B (.agg #[.slice yb ps.length yc,.int .i64 lim]) (.slice vb c.length vc) ps lim c c W ⟨_,rfl,c3⟩ hv hok (xT (by omega) b7) (λx hx=>by have:=hcm x hx;have:=hok.len;omega) (q35 b7) hcl (λx hl hn hx=>⟨λy hy=>hcm y (hx y hy),hn,by omega⟩);have HF:=qgr a8;have HB:=qgr hB;have b6:=qgr b8;have d7:=qgr a7;clear a8 hB b8 a7 a9 c3 hv;cases hfd:(qN c c.length []).find? (j5 ps lim) with
 | none=>
  rw[hfd] at HF;have b0:=qgr hfd;clear hfd;go_enter Tp.x101,Tryz.ntmps101;go_wp2_with (first | (go_at_call 102;refine(HF.out).mono ?_;rintro e w2 ⟨hg2,⟨x,v',hx,-⟩ | ⟨-,rfl⟩⟩;cases hx));go_ret;have hst:q02 ps lim (jY ps lim done) c=jY ps lim done:=by unfold q02;rw[show(kX c).find? _=none from b0.out]
  exact⟨rfl,⟨rfl,d7.out.andThen hg2 (by simp),bv,by rw[xe,hst];exact blk hg2 (by simp) HB.out,by rw[xe,hst];exact(b6.out.kept hg2 (by simp)).mono (qgw _) hg2.size⟩,(qh6 _ _).andThen hg2 (by simp)⟩
 | some p=>
  rw[hfd] at HF;have b0:=qgr hfd;clear hfd;obtain⟨s,hs⟩:∃s,s=(jY ps lim done).1:=⟨_,rfl⟩;rw[<- hs] at HB;have HS:=qgr hs;clear hs;go_enter Tp.x101,Tryz.ntmps101;go_wp2_with (first
   | (go_at_call 102;refine(HF.out).mono ?_;rintro e w2 ⟨hg2,⟨x,v',hx,rfl,c8⟩ | ⟨hx,-⟩⟩<;>cases hx;have a6:=qgr hg2;have d6:=qgr c8;clear hg2 c8)
   | (go_at_call 103;refine(q9i B s bv v' (jY ps lim done).2 p w2 (blk a6.out (by simp) HB.out) ((b6.out.kept a6.out (by simp)).mono (qgw _) a6.out.size) (d6.out.mono (qhz _) (qgw _))).mono ?_;rintro e w3 ⟨rfl,hT⟩;have HT:=qgr hT;clear hT))
  go_ret;have hst:q02 ps lim (jY ps lim done) c=(true,if s=true/\Zz p (jY ps lim done).2=false then(jY ps lim done).2 else p):=by unfold q02;rw[show(kX c).find? _=some p from b0.out,HS.out]
  have c9:=blk a6.out (by simp) HB.out;have hx:=b6.out.kept a6.out (by simp);have gW:W.grownBy w3 (some B):=(((qh6 W (some B)).andThen a6.out (by simp))).andThen HT.out.1 (λj e=>.inr e);have h3:qe 0 w3.heap.size w3 (if s=true/\Zz p (jY ps lim done).2=false then bv else v') (if s=true/\Zz p (jY ps lim done).2=false then(jY ps lim done).2 else p):=by
   have t1:qe 0 w3.heap.size w3 bv (jY ps lim done).2:=(hx.keptT HT.out.1 c9 (by decide)).mono (qgw _) (qgE a6.out.size HT.out.1.size);have t2:qe 0 w3.heap.size w3 v' p:=(d6.out.keptT HT.out.1 c9 (by decide)).mono (qhz _) HT.out.1.size;by_cases hc:s=true/\Zz p (jY ps lim done).2=false
   ·rw[if_pos hc,if_pos hc];exact t1
   ·rw[if_neg hc,if_neg hc];exact t2
  exact⟨rfl,⟨rfl,d7.out.andThen gW (λj e=>.inr e),_,by rw[xe,hst];exact HT.out.2,by rw[xe,hst];exact h3⟩,gW⟩
theorem POk.nil(ps:List Par){lim:Int}(h:1<=lim):POk ps lim []:=⟨by simp,List.nodup_nil,by simp[qK];omega,by simp⟩
theorem q6n{n:Nat}{c:List Int}(h:c.Sublist (zo n)):c.Pairwise (·<·)/\(∀x∈c,0<=x/\x<n)/\c.length<=n :=
 ⟨(q1t n).sublist h,λx hx=>q3j (h.subset hx),by have:=h.length_le;rwa [zk] at this⟩
theorem qcG{ps:List Par}{lim:Int}{Y B:Nat}{w0:qgt}{yb:Option qi2}{yc:Nat}(a9:w0.heap[Y]?=some (.cells #[.slice yb ps.length yc,.int .i64 lim] 91 (0,0)))(b0:qw 0 w0.heap.size w0 (.slice yb ps.length yc) ps){b7:Array qgx}{f0:Nat × Nat}(a7:w0.heap[B]?=some (.cells b7 108 f0))(hok:YOk ps lim)(a8:Y≠B) :Cb w0.heap.size (zo ps.length) 101 #[.pointer (some ⟨Y,0,none⟩),.pointer (some ⟨B,0,none⟩)] (q7h ps lim B w0):=by
 refine⟨?_,?_,enters_of Tp.x101 (by kernel_rfl) rfl,?_⟩
 ·rintro s G A C ⟨rfl,h1,bv,h2,h3⟩ hg;exact⟨rfl,h1.andThen hg (by simp),bv,blk hg (by simp) h2,(h3.kept hg (by simp)).mono (qgw _) hg.size⟩
 ·rintro s G A ⟨rfl,-⟩ k hk;exact hk.elim
 ·rintro done G W v c hI hv - a6 -
  obtain⟨h1,h2,h3⟩:=q6n a6;obtain rfl:=hI.1;refine(q83 ps lim Y B w0 yb yc a9 b0 a7 hok c h1 h2 (by have:=hok.len;omega) a8 done W hI v hv).mono ?_;rintro e W' ⟨rfl,b6,hg⟩;have b8:=qA a7;exact⟨rfl,KB,b6,hg.tape,hg.size,λk hk hc _=>hg.block k hk (λe=>by cases e;omega),λk hk=>hk.elim⟩
theorem qar{ps:List Par}{lim:Int}{Y B:Nat}{w0:qgt}{yb:Option qi2}{yc:Nat}(a7:w0.heap[Y]?=some (.cells #[.slice yb ps.length yc,.int .i64 lim] 91 (0,0)))(a8:qw 0 w0.heap.size w0 (.slice yb ps.length yc) ps)(hok:YOk ps lim)(a6:Y≠B)(hB:w0.heap[B]?=some (.cells #[.func (.func 98) #[] #[],.slice none 0 0,.bool false] 108 (0,0))){b:Option qi2}{k:Nat}(hI:qe 0 w0.heap.size w0 (.slice b ps.length k) (zo ps.length)) :qhx Ya 82 #[.slice b ps.length k,.func (.func 101) #[] #[.pointer (some ⟨Y,0,none⟩),.pointer (some ⟨B,0,none⟩)]] w0 λe W'=>e=.returned (.bool false)/\q7h ps lim B w0 (yp (zo ps.length) 0) KB W':=by
 have hl:ps.length<=5:=hok.len;have h:=qft (b:=b) (c:=k) (ll:=zo ps.length) (qcG a7 a8 hB hok a6) (by rw[zk];omega) (xT (by rw[zk];omega) (q1t _)) (by rw[zk];exact hI) (G:=KB) ⟨rfl,qh6 _ _,_,hB,qe.nil _ _ _⟩;rw[zk] at h;refine h.mono ?_;rintro e W' ⟨he,G',h⟩;obtain rfl:=h.1;exact⟨he,h⟩
theorem qas(pv:qgx)(ps:List Par)(lim:Int)(w:qgt)(hP:qw 0 w.heap.size w pv ps)(hok:YOk ps lim) :qhx Ya 44 #[.agg #[pv,.int .i64 lim]] w λe w'=>∃v,e=.returned (.tuple #[v,.int .i64 0])/\w.grownBy w' none/\qe 0 w'.heap.size w' v (jY ps lim (yp (zo ps.length) 0)).2:=by
 obtain⟨yb,yc,rfl,k0,-⟩:=hP.cell;have HP:=qgr hP;have b0:=qgr hok;clear hP hok;go_enter Tp.x44,Tryz.ntmps44;go_upto_region 4 with(first
  | (go_at_call 81;go_must (refine(x9 0 w.heap.size _ _ ps lim [] _ (HP.out.kept (qgs _ _ none) (by simp)) (qe.nil _ _ _) (by simp) b0.out (POk.nil ps b0.out.l1)).mono ?_);rintro e w2 ⟨rfl,e4⟩;have h8:=qgr ((qgs w (.cells #[.slice yb ps.length yc,.int .i64 lim] 24) none).trans e4);clear e4))
 obtain⟨Y,b7⟩:∃Y,Y=w2.heap.size:=⟨_,rfl⟩;obtain⟨w3,a8⟩:∃w3,w3=w2.alloc (.cells #[.slice yb ps.length yc,.int .i64 lim] 91):=⟨_,rfl⟩;rw[<- b7,<- a8];have d7:w3.heap[Y]?=some (.cells #[.slice yb ps.length yc,.int .i64 lim] 91 (0,0)):=by rw[a8,b7];exact qgC _ _
 have d9:w.grownBy w3 none:=h8.out.trans (by rw[a8];exact qgs _ _ none);have c9:=qgr d7;have e8:=qgr d9;clear b7 a8 d7 d9;have k7:∀(a:qi2) (fn:Fn) (x y:Array qgx) (m:Mode) (w:qgt),(store a (.func fn x y) m).run Ya w=stored Ya w a (.func fn x y) m:=λa fn x y m w=>run_store _ w a _ m rfl;go_upto_region 5 with(fail);obtain⟨B,c8⟩:∃B,B=w3.heap.size:=⟨_,rfl⟩;obtain⟨w4,a7⟩:∃w4,w4=w3.alloc (.cells #[.func (.func 98) #[] #[],.slice none 0 0,.bool false] 108):=⟨_,rfl⟩;rw[<- c8,<- a7];have e7:w4.heap[B]?=some (.cells #[.func (.func 98) #[] #[],.slice none 0 0,.bool false] 108 (0,0)):=by rw[a7,c8];exact qgC _ _
 have c3:w3.grownBy w4 none:=by rw[a7];exact qgs _ _ none
 have a9:=blk c3 (by simp) c9.out;have e9:w.heap.size<=B:=by have:=e8.out.size;omega
 have h9:=qgr e7;have g6:=qgr a9;have d5:=qgr (e8.out.trans c3);have g5:=qgr (show Y≠B by have:=qA c9.out;omega);have c0:=q9 a9 (o:=0) rfl;have c1:=q9 a9 (o:=1) rfl;clear c8 a7 e7 c3 a9 c9;have hn:ps.length<=1000:=by have:=b0.out.len;omega
 go_upto_region 6 with(first
  | (go_at_call 100;refine(xY yb ps.length yc lim w4 hn).mono ?_;rintro e w5 ⟨v5,rfl,d8,b9⟩;obtain⟨b5,k5,e5,-,-⟩:=b9.cell;rw[zk] at e5;subst e5;have a6:=qgr d8;have g8:=qgr b9;clear d8 b9)
  | (go_at_call 82;refine(qar (blk a6.out (by simp) g6.out) ((HP.out.kept (d5.out.trans a6.out) (by simp)).mono (qgw _) (d5.out.trans a6.out).size) b0.out g5.out (blk a6.out (by simp) h9.out) (g8.out.mono (qhz _) (qgw _))).mono ?_;rintro e w6 ⟨rfl,-,d6,bv,e6,b8⟩;obtain⟨b6,k6,rfl,-,-⟩:=b8.cell;have c6:=q9 e6 (o:=1) rfl;have g7:=qgr b8;have g9:=qgr d6;clear b8 d6 e6))
 go_wp2;go_ret2;exact⟨_,rfl,xE (d5.out.trans a6.out) g9.out e9,g7.out⟩
end
section
open Go.RowKit
def zm(lo hi B o:Nat)(w:qgt)(L:List (List Int)):Prop :=
 ∃cs,w.heap[B]?=some (.cells cs 29 (0,0))/\∀i,i<L.length->∃l x,L[i]?=some l/\cs[o+i]?=some x/\qe lo hi w x l
def Ky:Nat->List (List Int)->List (List Int)
 | 0,L=>L
 | j+1,L=>match L[j+1]?,L[j]? with
  | some a,some b=>if zq a b<0 then Ky j ((L.set (j+1) b).set j a) else L
  | _,_=>L
def zI(k:Nat)(L:List (List Int)):List (List Int):=(qhl k).foldl (λL i=>Ky i L) L
theorem xn(k:Nat)(L:List (List Int)):zI (k+1) L=Ky k (zI k L):=by simp[zI,qkG]
theorem qa6(j:Nat)(L:List (List Int)):(Ky j L).length=L.length:=by
 induction j generalizing L with
 | zero=>rfl
 | succ j ih=>
  unfold Ky;split
  ·split
   ·rw[ih];simp
   ·rfl
  ·rfl
theorem Jq(k:Nat)(L:List (List Int)):(zI k L).length=L.length:=by
 induction k with
 | zero=>rfl
 | succ k ih=>rw[xn,qa6,ih]
section
variable{lo hi B o:Nat}{w w':qgt}{L:List (List Int)}
theorem zm.kept{r:Option Nat}(h:zm lo hi B o w L)(hg:w.grownBy w' r)(hr:∀R,r=some R->R≠B/\(R<lo\/hi<=R)):zm lo hi B o w' L:=by
 obtain⟨cs,h1,h2⟩:=h;refine⟨cs,blk hg (λe=>(hr B e.symm).1 rfl) h1,λi hi=>?_⟩;obtain⟨l,x,a,b,c⟩:=h2 i hi;exact⟨l,x,a,b,c.kept hg λR e=>(hr R e).2⟩
theorem zm.at{k:Nat}(h:zm lo hi B o w L)(hk:k<L.length):∃l xb xc,L[k]?=some l/\w.cell? ⟨B,o+k,none⟩=some (.slice xb l.length xc)/\qe lo hi w (.slice xb l.length xc) l:=by
 obtain⟨cs,h1,h2⟩:=h;obtain⟨l,x,a,b,c⟩:=h2 k hk;obtain⟨xb,xc,rfl,-,-⟩:=c.cell;exact⟨l,xb,xc,a,by simp[qhu,h1,b],c⟩
theorem zm.thaw{k:Nat}(h:zm lo hi B o w L):w.frozen? ⟨B,o+k,none⟩=false:=by
 obtain⟨cs,h1,h2⟩:=h;exact qq h1
theorem qe.setT{v x:qgx}{l:List Int}{k:Nat}{cs:Array qgx}(h:qe lo hi w v l)(hB:w.heap[B]?=some (.cells cs 29 (0,0))):qe lo hi (w.setCell ⟨B,k,none⟩ x) v l:=by
 obtain⟨base,cap,rfl,hl,hr⟩:=h;refine⟨base,cap,rfl,hl,λhn=>?_⟩;obtain⟨C,o,cs',fr,e1,e2,e3,e4,e5⟩:=hr hn;refine⟨C,o,cs',fr,e1,e2,e3,(qic _ _ _ C (λe=>?_)).trans e4,e5⟩;have e:C=B:=e;subst e;rw[e4] at hB;cases hB
theorem zm.step{j:Nat}{y v:qgx}(h:zm lo hi B o w L)(hy:w.cell? ⟨B,o+j,none⟩=some y):(w.setCell ⟨B,o+(j+1),none⟩ v).cell? ⟨B,o+j,none⟩=some y/\(w.setCell ⟨B,o+(j+1),none⟩ v).frozen? ⟨B,o+j,none⟩=false:=by
 obtain⟨cs,h1,-⟩:=h;have g1:(w.setCell ⟨B,o+(j+1),none⟩ v).heap[B]?=some (.cells (cs.setIfInBounds (o+(j+1)) v) 29 (0,0)):=by rw[qj h1]
 have c2:cs[o+j]?=some y:=by simpa[qhu,h1] using hy
 exact⟨q9 g1 (by rw[qi3 (by omega)];exact c2),qq g1⟩
theorem zm.swap{j:Nat}{a b:List Int}{x y:qgx}(h:zm lo hi B o w L)(ha:L[j+1]?=some a)(hb:L[j]?=some b)(hx:w.cell? ⟨B,o+(j+1),none⟩=some x)(hy:w.cell? ⟨B,o+j,none⟩=some y)(xi:qe lo hi w x a)(yi:qe lo hi w y b) :zm lo hi B o ((w.setCell ⟨B,o+(j+1),none⟩ y).setCell ⟨B,o+j,none⟩ x) ((L.set (j+1) b).set j a):=by
 obtain⟨cs,h1,h2⟩:=h;have g1:(w.setCell ⟨B,o+(j+1),none⟩ y).heap[B]?=some (.cells (cs.setIfInBounds (o+(j+1)) y) 29 (0,0)):=by rw[qj h1]
 have g2:((w.setCell ⟨B,o+(j+1),none⟩ y).setCell ⟨B,o+j,none⟩ x).heap[B]?=some (.cells ((cs.setIfInBounds (o+(j+1)) y).setIfInBounds (o+j) x) 29 (0,0)):=by rw[qj g1]
 obtain⟨a6,-⟩:=qh0.1 ha;have c1:cs[o+(j+1)]?=some x:=by simpa[qhu,h1] using hx
 have c2:cs[o+j]?=some y:=by simpa[qhu,h1] using hy
 have s1:=(qgu.1 c1).1;have s2:=(qgu.1 c2).1;refine⟨_,g2,λi hi=>?_⟩;simp only[qlh] at hi;by_cases e:i=j
 ·subst e;refine⟨a,x,qks (by rw[qlh];omega),qjk (by rw[Array.size_setIfInBounds];omega),(xi.setT h1).setT g1⟩
 ·by_cases e':i=j+1
  ·subst e';refine⟨b,y,by rw[qjq (by omega)];exact qks (by omega),by rw[qi3 (by omega)];exact qjk (by omega),(yi.setT h1).setT g1⟩
  ·obtain⟨l,z,k1,k2,k3⟩:=h2 i hi;refine⟨l,z,by rw[qjq (by omega),qjq (by omega)];exact k1,by rw[qi3 (by omega),qi3 (by omega)];exact k2,(k3.setT h1).setT g1⟩
end
theorem KE(lo hi B o:Nat)(c:Nat)(L:List (List Int))(w:qgt)(hI:zm lo hi B o w L)(hhi:hi<=w.heap.size)(h9:L.length<=1000) :qhx Ya 188 #[.slice (some ⟨B,o,none⟩) L.length c,.int .i64 (0:Nat),.int .i64 L.length,.func (.func 122) #[] #[]] w λe w'=>e=.returned (.tuple #[])/\w.grownBy w' (some B)/\zm lo hi B o w' (zI L.length L):=by
 have HI:=qgr hI;have g7:(L.length:Int)<=1000:=by omega
 clear hI;go_enter Tp.x188,Tryz.ntmps188;go_wp2;go_loopw [8] (λiv wr=>∃k:Nat,iv=.int .i64 (k+1:Nat)/\k<=1000/\w.grownBy wr (some B)/\zm lo hi B o wr (zI (min (k+1) L.length) L)) (λiv _=>(L.length - qia iv).toNat)
 case atStart=>exact⟨0,rfl,by omega,qh6 _ _,by
  by_cases h:L.length=0
  ·rw[h];exact HI.out
  ·rw[show min (0+1) L.length=0+1 by omega,xn];exact HI.out⟩
 case round=>
  obtain⟨k,rfl,hk,hG,hR⟩:=hrel;have HG:=qgr hG;have HR:=qgr hR;clear hG hR;by_cases hlt:k+1<L.length
  ·have e6:(k:Int)+1<(L.length:Int):=by omega
   have e5:IntKind.i64.wrap ((k:Int)+1+1)=(k:Int)+1+1:=qhm _ (by omega);have e8:IntKind.i64.wrap ((k:Int)+1)=(k:Int)+1:=qhm _ (by omega);go_wp2;go_loopw [9] (λjv w2=>∃(j:Nat) (Lj:List (List Int)),jv=.int .i64 j/\j<=k+1/\Ky (k+1) (zI (min (k+1) L.length) L)=Ky j Lj/\Lj.length=L.length/\w.grownBy w2 (some B)/\zm lo hi B o w2 Lj) (λjv _=>(qia jv).toNat)
   case atStart=>exact⟨k+1,_,rfl,qgw _,rfl,Jq _ _,HG.out,HR.out⟩
   case round=>
    obtain⟨j0,Lj,rfl,hj,hs,c9,d6,d5⟩:=hrel;have b9:=qgr hs;have c3:=qgr c9;have c8:=qgr d6;have a8:=qgr d5;clear hs c9 d6 d5;have hout:Ky (k+1) (zI (min (k+1) L.length) L)=Lj->∀w5,w.grownBy w5 (some B)->zm lo hi B o w5 Lj->∃k',qhe .i64 ((k:Int)+1+1)=.int .i64 ((k'+1:Nat):Int)/\k'<=1000/\w.grownBy w5 (some B)/\zm lo hi B o w5 (zI (min (k'+1) L.length) L):=λe w5 h1 h2=>
     ⟨k+1,by simp,by omega,h1,by rw[show min (k+1+1) L.length=(k+1)+1 by omega,xn,<- show min (k+1) L.length=k+1 by omega,show min (k+1) L.length=k+1 by omega];rw[show min (k+1) L.length=k+1 by omega] at e;rw[e];exact h2⟩
    have a9:=qgr hout;clear hout;cases j0 with
    | zero=>
     go_wp2_with (fail);go_quiet (fail);go_wp2;go_roundw
     case rel=>exact a9.out b9.out _ (c8.out.andThen (qk _ _ none) (by simp)) (a8.out.kept (qk _ _ none) (by simp))
     case measure=>simp[qia];omega
    | succ j=>
     obtain⟨a,xb,xc,ha,x1,xi⟩:=a8.out.at (k:=j+1) (by have:=c3.out;omega);obtain⟨b,yb,yc,hb,y1,yi⟩:=a8.out.at (k:=j) (by have:=c3.out;omega);have z1:=a8.out.thaw (k:=j+1);have z0:=a8.out.thaw (k:=j);have a7:Ky (j+1) Lj=if zq a b<0 then Ky j ((Lj.set (j+1) b).set j a) else Lj:=by
      show(match Lj[j+1]?,Lj[j]? with | some a,some b=>_ | _,_=>_)=_;rw[ha,hb]
     have b6:=λC (h:World.grownBy _ C none)=>Jy lo hi lo hi _ _ a b C (xi.kept h (by simp)) (yi.kept h (by simp));generalize zq a b=z at a7 b6;have d8:=qgr b6;have e9:IntKind.i64.wrap (j:Int)=(j:Int):=qhm _ (by omega);have g6:((j:Int)+1).toNat=j+1:=by omega
     have g9:(j:Int)+1<(L.length:Int):=by omega
     have e7:(j:Int)<(L.length:Int):=by omega
     have h8:(0:Int)<=(j:Int)+1:=by omega
     have g8:(0:Int)<(j:Int)+1:=by omega
     have g5:(j:Int)+1 - 1=(j:Int):=by omega
     have XI:=qgr (qhb xi yi);have E:=qgr (qhb ha hb);clear b6 xi yi ha hb;by_cases hz:z<0
     ·rw[if_pos hz] at a7;have b8:=qgr a7;clear a7;go_wp2_with (fail);go_quiet (first | (go_at_call 122;refine qiG ((d8.out _ (qk _ _ none)).mono (λe w5 h=>⟨h.1,h.2.symm⟩))));go_upto_region 6 with(fail);have b0:=qk wr nq none;generalize wr.drewN nq=wa at b0 ⊢;have hgb:wr.grownBy wa.drew none:=b0.trans (qg wa none);have RA:=a8.out.kept hgb (by simp);have x2:=hgb.cell x1 (by simp);have y2:=hgb.cell y1 (by simp);have d9:=qgr (RA.swap E.out.1 E.out.2 x2 y2 (XI.out.1.kept hgb (by simp)) (XI.out.2.kept hgb (by simp)));have e4:=qgr (((c8.out.andThen hgb (by simp)).andThen (qh _ B (o+(j+1)) (.slice yb b.length yc)) (λj e=>.inr e)).andThen (qh _ B (o+j) (.slice xb a.length xc)) (λj e=>.inr e));have z2:=RA.thaw (k:=j+1);have z3:=RA.thaw (k:=j);have b7:=RA.step (v:=.slice yb b.length yc) y2;have d7:=qgr b7;have z4:=b7.2;clear RA b7 x1 y1 z1 z0 b0 hgb;refine qU 16 (λw'=>w'.cell? ⟨B,o+j,none⟩=some (.slice yb b.length yc)/\w'.frozen? ⟨B,o+j,none⟩=false) (by kernel_rfl) (by kernel_rfl) ⟨y2,z3⟩ (λa6=>?_);simp only[qh1,qh7,qhj,qir,qhd,qhr,qhs,qi1,qhn,qha];refine tk 0 (h:=tk 1 (h:=tk 2 (h:=tk 3 (h:=tk 4 (h:=tk 5 (h:=tk 6 (h:=tk 7 (h:=tk 8 (h:=tk 9 (h:=tk 10 (h:=tk 11 (h:=tk 12 (h:=?_)))))))))))));try go_frame
      refine rdy [13] ?_;refine cns 13 (λK hK=>?_) ?_
      ·skip;go_simp;refine hK.out _ _ (by first | exact a6 | exact⟨y2,z3⟩ | exact d7.out) (λa6=>?_);clear hK K;try go_frame
       refine tk 14 (h:=?_);try go_frame
       refine rdy [15] ?_;refine cns 15 (λK hK=>?_) ?_
       ·skip;go_simp;refine hK.out _ _ (by first | exact a6 | exact⟨y2,z3⟩ | exact d7.out) (λa6=>?_);clear hK K;try go_frame
        refine⟨by kernel_rfl,?_⟩;simp only[qhA,qio];go_wp2;refine⟨?_,?measure⟩
        repeat apply Exists.intro
        refine⟨?rel,rfl⟩
        case rel=>exact⟨j,_,rfl,by omega,b9.out.trans b8.out,by simp[c3.out],e4.out,d9.out⟩
        case measure=>simp[qia]
       exact qp.nil
      exact qp.nil
     ·rw[if_neg hz] at a7;have b8:=qgr a7;clear a7;go_wp2_with (fail);go_quiet (first | (go_at_call 122;refine qiG ((d8.out _ (qk _ _ none)).mono (λe w5 h=>⟨h.1,h.2.symm⟩))));go_wp2;refine⟨?_,?measure⟩
      repeat apply Exists.intro
      refine⟨?rel,rfl⟩
      case rel=>exact a9.out (b9.out.trans b8.out) _ (c8.out.andThen (qk _ _ none) (by simp)) (a8.out.kept (qk _ _ none) (by simp))
      case measure=>simp[qia];omega
  ·have he:min (k+1) L.length=L.length:=by omega
   rw[he] at HR;go_wp2;go_end0;exact⟨rfl,HG.out,HR.out⟩
end
section
open Go.RowKit
theorem qcD(lo hi B o c:Nat)(L:List (List Int))(lim:Int)(w:qgt)(hI:zm lo hi B o w L)(hhi:hi<=w.heap.size)(a6:L.length<=12) :qhx Ya 155 #[.slice (some ⟨B,o,none⟩) L.length c,.int .i64 (0:Nat),.int .i64 L.length,.int .i64 lim,.func (.func 122) #[] #[]] w λe w'=>e=.returned (.tuple #[])/\w.grownBy w' (some B)/\zm lo hi B o w' (zI L.length L):=by
 have HI:=qgr hI;clear hI;go_enter Tp.x155,Tryz.ntmps155;go_wp2;go_loopw [1,2,3] (λa b c wr=>a=.int .i64 (0:Nat)/\b=.int .i64 L.length/\c=.int .i64 lim/\w=wr) (λ_ _ _ _=>0)
 case atStart=>exact⟨rfl,rfl,rfl,rfl⟩
 case round=>
  obtain⟨rfl,rfl,rfl,rfl⟩:=hrel;have h1:IntKind.i64.wrap (L.length:Int)=(L.length:Int):=qhm _ (by omega);have h2:(L.length:Int)<=12:=by omega
  go_wp2_with (first | (go_at_call 188;refine(KE lo hi B o c L _ HI.out hhi (by omega)).mono ?_;rintro e w2 ⟨rfl,hg,hr⟩));refine qjD (results_none rfl _ _ _) rfl ?_;exact⟨rfl,hg,hr⟩
theorem qa2(lo hi B o c:Nat)(L:List (List Int))(w:qgt)(hI:zm lo hi B o w L)(hhi:hi<=w.heap.size)(a6:L.length<=12) :qhx Ya 121 #[.slice (some ⟨B,o,none⟩) L.length c,.func (.func 122) #[] #[]] w λe w'=>e=.returned (.tuple #[])/\w.grownBy w' (some B)/\zm lo hi B o w' (zI L.length L):=by
 have HI:=qgr hI;have hw:IntKind.u64.wrap (L.length:Int)=(L.length:Int):=by simp[IntKind.wrap,IntKind.signed,IntKind.bits];omega
 clear hI;go_enter Tp.x121,Tryz.ntmps121;go_wp2_with (first
  | (go_at_call 156;refine(JA L.length a6 _).mono ?_;rintro e w2 ⟨v,rfl,rfl⟩)
  | (go_at_call 155;refine(qcD lo hi B o c L _ _ HI.out hhi a6).mono ?_;rintro e w2 ⟨rfl,hg,hr⟩))
 go_end0;exact⟨rfl,hg,hr⟩
theorem q0e(lo hi:Nat)(v:qgx)(l:List Int)(w:qgt)(hI:qe lo hi w v l)(h5:∀x∈l,0<=x/\x<5) :qhx Ya 123 #[v] w λe w'=>e=.returned (.int .u8 (zy l:Nat))/\w=w':=by
 obtain⟨b,c,rfl,b0,hc⟩:=hI.cell;have HC:=qgr hc;have H5:=qgr h5;clear hc h5 hI;go_enter Tp.x123,Tryz.ntmps123;go_wp2;go_loopw [3,9] (λsv iv wr=>∃k:Nat,iv=.int .i64 k/\sv=.int .u8 (zy (l.take k):Nat)/\k<=l.length/\w=wr) (λ_ iv _=>(l.length - qia iv).toNat)
 case atStart=>exact⟨0,rfl,rfl,by omega,rfl⟩
 case round=>
  obtain⟨k,rfl,rfl,hk,rfl⟩:=hrel;by_cases hlt:k<l.length
  ·obtain⟨B,o,rfl,b8,b7,b6,a6⟩:=HC.out (by intro e;rw[e] at hlt;simp at hlt);obtain⟨x,hx⟩:∃x,l[k]?=some x:=⟨_,qgB hlt⟩;have x1:=a6 k hlt;rw[hx] at x1;simp only[qgD] at x1;obtain⟨a9,a8⟩:=H5.out x (qhc hx);obtain⟨n,rfl⟩:∃n:Nat,x=(n:Int):=⟨x.toNat,by omega⟩;have hm:zy (l.take k)<32:=Qs _ 5 λy hy=>by have:=H5.out y (qkE hy);omega
   have hs:=q0o l k n hx;have a7:(k:Int)<(l.length:Int):=by omega
   generalize zy (l.take k)=m at hm hs ⊢;have HS:=qgr hs;clear hs a6 hx;go_wp2_with (first | (go_at_call 151;refine(JY m n _ hm (by omega)).mono ?_;rintro e w2 ⟨rfl,rfl⟩));go_roundw
   case rel=>exact⟨k+1,by simp,by rw[HS.out,Int.toNat_natCast],by omega,by first | rfl | trivial⟩
   case measure=>simp[qia];omega
  ·obtain rfl:k=l.length:=by omega
   go_wp2;go_ret;exact⟨by rw[qiy];rfl,by first | rfl | trivial⟩
end
section
open Go.RowKit Go.Shelf
attribute [local go_sem] Oper.semAt_some
def q2H(ps:List Par)(c:List Int):List (List Int):=(kX c).filter λo=>!o.isEmpty && qu ps (pre Par.mx ps ps.length) o
def vC(ps:List Par)(L:List (List Int)):List (List Int):=L.flatMap (q2H ps)
theorem q5f(ps:List Par)(L:List (List Int))(c:List Int):vC ps (L++[c])=vC ps L++q2H ps c:=by simp[vC]
def qeb(n0:Nat)(L:List (List Int))(vals:List qgx)(G:Nat->Prop)(W:qgt):Prop :=
 ∀i,i<L.length->∃l x,L[i]?=some l/\vals[i]?=some x/\qe n0 W.heap.size W x l/\∀B o n c,x=.slice (some ⟨B,o,none⟩) n c->l≠[]->G B
structure ZM(Sg:Nat)(w0:qgt)(L:List (List Int))(G:Nat->Prop)(W:qgt):Prop where
 os:W.os=w0.os
 tape:W.tape=w0.tape
 output:W.output=w0.output
 size:w0.heap.size<=W.heap.size
 keep:∀k,k<w0.heap.size->k≠Sg->W.heap[k]?=w0.heap[k]?
 lt:∀k,G k->w0.heap.size<=k/\k<W.heap.size
 sl:Sg<w0.heap.size
 sg:∃sv vals,W.heap[Sg]?=some (.cells #[sv] 36 (0,0))/\W.ownsRow w0.heap.size 29 1 sv L.length vals/\(∀g,sv.ownBlock=some g->G g)/\qeb w0.heap.size L vals G W
theorem q0x{lo:Nat}{A C:qgt}{x:qgx}{l:List Int}(h:qe lo A.heap.size A x l)(hs:A.heap.size<=C.heap.size)(hk:∀B o n c,x=.slice (some ⟨B,o,none⟩) n c->l≠[]->C.heap[B]?=A.heap[B]?):qe lo C.heap.size C x l:=by
 obtain⟨base,cap,rfl,hl,hr⟩:=h;refine⟨base,cap,rfl,hl,λhne=>?_⟩;obtain⟨B,o,cs,fr,e1,e2,e3,e4,e5⟩:=hr hne;exact⟨B,o,cs,fr,e1,e2,by omega,(hk B o _ _ (by rw[e1]) hne).trans e4,e5⟩
theorem jL{lo e sz:Nat}{A C:qgt}{v:qgx}{n:Nat}{xs:List qgx}(h:A.ownsRow lo e sz v n xs)(hk:∀g,v.ownBlock=some g->C.heap[g]?=A.heap[g]?):C.ownsRow lo e sz v n xs:=by
 obtain⟨h1,h2⟩:=h;refine⟨h1,?_⟩;rcases h2 with h2 | ⟨g,cap,cur,rfl,hb,hg,hr⟩
 ·exact .inl h2
 ·exact .inr ⟨g,cap,cur,rfl,hb,(hk g (by simp[qhp])).trans hg,hr⟩
theorem ZS{n1 B:Nat}{G:Nat->Prop}{A C:qgt}(hg:A.grownBy C none):Stp n1 B G A C:=⟨hg.os,hg.tape,hg.output,hg.size,λk hk _=>hg.block k hk (by simp)⟩
theorem ZM.stp{Sg:Nat}{w0:qgt}{L:List (List Int)}{G:Nat->Prop}{A C:qgt}{n1 B:Nat}(h:ZM Sg w0 L G A)(hs:Stp n1 B G A C)(hn:w0.heap.size<=n1)(hB:w0.heap.size<=B):ZM Sg w0 L G C:=by
 have a6:=h.sl;have hsz:=h.size;have a7:=hs.size;have hk:∀k,k<w0.heap.size->C.heap[k]?=A.heap[k]?:=λk hk=>hs.keep k (by omega) (.inl ⟨by omega,by omega⟩);obtain⟨sv,vals,h1,h2,h3,h4⟩:=h.sg;refine⟨hs.os.trans h.os,hs.tape.trans h.tape,hs.output.trans h.output,by omega,λk hk' hne=>(hk k hk').trans (h.keep k hk' hne),λk hg=>⟨(h.lt k hg).1,by have:=(h.lt k hg).2;omega⟩,a6,sv,vals,(hk Sg a6).trans h1,jL h2 λg e=>hs.keep g (h.lt g (h3 g e)).2 (.inr (h3 g e)),h3,λi hi=>?_⟩;obtain⟨l,x,e1,e2,e3,e4⟩:=h4 i hi;exact⟨l,x,e1,e2,q0x e3 a7 λB o n c e hne=>hs.keep B (h.lt B (e4 B o n c e hne)).2 (.inr (e4 B o n c e hne)),e4⟩
theorem ZM.push{Sg:Nat}{w0:qgt}{L:List (List Int)}{G:Nat->Prop}{W E C:qgt}{sv v':qgx}{vals:List qgx}{x:qgx}{l:List Int}(h:ZM Sg w0 L G W)(h1:W.heap[Sg]?=some (.cells #[sv] 36 (0,0)))(h2:W.ownsRow w0.heap.size 29 1 sv L.length vals)(h3:∀g,sv.ownBlock=some g->G g)(h4:qeb w0.heap.size L vals G W)(hE:W.grownBy E sv.ownBlock)(hown:E.ownsRow w0.heap.size 29 1 v' (L.length+1) (vals++[x]))(hv:∀g,v'.ownBlock=some g->sv.ownBlock=some g\/W.heap.size<=g)(a8:∀g,v'.ownBlock=some g->g<E.heap.size)(hx:qe W.heap.size E.heap.size E x l)(hC:C=E.setCell ⟨Sg,0,none⟩ v') :ZM Sg w0 (L++[l]) (λk=>G k\/(W.heap.size<=k/\k<C.heap.size)) C/\∀n B,Sg<n->Sg≠B->Bod n B G (λk=>G k\/(W.heap.size<=k/\k<C.heap.size)) W C:=by
 have h5:vals.length=L.length:=by have:=h2.1;omega
 have a7:∀y m g,sv.ownBlock=some g->qe w0.heap.size W.heap.size W y m->∀B o n c,y=.slice (some ⟨B,o,none⟩) n c->m≠[]->B≠g:=by
  rintro y m g hg ⟨base,cap,rfl,hl,hr⟩ B o n c e hne rfl;obtain⟨B',o',cs,fr,e1,e2,e3,e4,e5⟩:=hr hne;cases e;cases e1;rcases h2.2 with⟨rfl,_⟩ | ⟨g',cap',cur,rfl,hb,hgb,_⟩
  ·simp[qhp] at hg
  ·obtain rfl:g'=B:=by simpa[qhp] using hg
   rw[hgb] at e4;cases e4
 have b0:=h.sl;have hsz:=h.size;have hes:=hE.size;have a6:=qh E Sg 0 v';rw[<- hC] at a6;have hcs:C.heap.size=E.heap.size:=by rw[hC];simp[qja]
 have b8:E.heap[Sg]?=some (.cells #[sv] 36 (0,0)):=(hE.block Sg (by omega) (λe=>by have:=(h.lt _ (h3 _ e.symm)).1;omega)).trans h1;have b7:C.heap[Sg]?=some (.cells #[v'] 36 (0,0)):=by rw[hC,qj b8];rfl
 have hk:∀k,k<W.heap.size->k≠Sg->sv.ownBlock≠some k->C.heap[k]?=W.heap[k]?:=λk hk hne a7=>(a6.block k (by omega) (by intro e;cases e;exact hne rfl)).trans (hE.block k hk (λe=>a7 e.symm));refine⟨⟨a6.os.trans (hE.os.trans h.os),a6.tape.trans (hE.tape.trans h.tape),a6.output.trans (hE.output.trans h.output),by omega,λk hk' hne=>?_,λk hg=>?_,b0,v',vals++[x],b7,?_,λg e=>?_,λi hi=>?_⟩,λn B hn hB=>⟨a6.tape.trans hE.tape,by omega,λk hk' hc hg=>?_,λk hg=>hg.imp id λe=>e.1⟩⟩
 ·rw[hk k (by omega) hne (λe=>by have:=(h.lt _ (h3 _ e)).1;omega)];exact h.keep k hk' hne
 ·rcases hg with hg | hg
  ·exact⟨(h.lt k hg).1,by have:=(h.lt k hg).2;omega⟩
  ·omega
 ·rw[qih,qng];exact jL hown λg e=>a6.block g (a8 g e) (by
   intro e';cases e';rcases hv _ e with h' | h'
   ·have:=(h.lt _ (h3 _ h')).1;omega
   ·omega)
 ·rcases hv g e with h' | h'
  ·exact .inl (h3 g h')
  ·exact .inr ⟨h',by have:=a8 g e;omega⟩
 ·by_cases a9:i<L.length
  ·obtain⟨m,y,e1,e2,e3,e4⟩:=h4 i a9;refine⟨m,y,by rw[qhh a9];exact e1,by rw[qhh (by omega)];exact e2,q0x e3 (by omega) λB o n c e hne=>hk B (h.lt B (e4 B o n c e hne)).2 (λe'=>by have:=(h.lt B (e4 B o n c e hne)).1;omega) (λe'=>a7 y m _ e' e3 B o n c e hne rfl),λB o n c e hne=>.inl (e4 B o n c e hne)⟩
  ·have b6:i=L.length:=by simp at hi;omega
   subst b6;refine⟨l,x,by simp,by rw[<- h5];simp,?_,λB o n c e hne=>.inr ?_⟩
   ·obtain⟨base,cap,rfl,hl,hr⟩:=hx;refine⟨base,cap,rfl,hl,λhne=>?_⟩;obtain⟨B,o,cs,fr,e1,e2,e3,e4,e5⟩:=hr hne;exact⟨B,o,cs,fr,e1,by omega,by omega,(a6.block B (by omega) (by intro e;cases e;omega)).trans e4,e5⟩
   ·obtain⟨base,cap,rfl,hl,hr⟩:=hx;obtain⟨B',o',cs,fr,e1,e2,e3,e4,e5⟩:=hr hne;cases e;cases e1;omega
 ·refine hk k hk' (λe=>by rcases hc with h' | h'<;>omega) (λe=>hg (h3 k e))
end
section
open Go.RowKit Go.Shelf
attribute [local go_sem] Oper.semAt_some
theorem Tp.info29p:(Ya.info? 29).map (λi=>(i.zero,i.size,i.bytes))=some (some (.slice none 0 0),1,24):=by kernel_rfl
theorem Tp.und36:Ya.underlying 36=some (.slice 29):=by rw[Tp.und];exact Tryz.underlying36
theorem qbc(ps:List Par)(lim:Int)(Y Sg:Nat)(w0:qgt)(yb:Option qi2)(yc:Nat)(d5:w0.heap[Y]?=some (.cells #[.slice yb ps.length yc,.int .i64 lim] 91 (0,0)))(n7:qw 0 w0.heap.size w0 (.slice yb ps.length yc) ps){p3:Array qgx}{f0:Nat × Nat}(g6:w0.heap[Sg]?=some (.cells p3 36 f0))(hok:YOk ps lim)(c:List Int)(k0:c.Pairwise (·<·))(hcm:∀x∈c,0<=x/\x<ps.length)(hcl:c.length<=5)(m8:∀x:List Int,x.length=c.length->x.Nodup->(∀y∈x,y∈c)->POk ps lim x)(L0:List (List Int))(hL:L0.length+(kX c).length<=1000)(G0:Nat->Prop)(W0:qgt)(hI:ZM Sg w0 L0 G0 W0)(v:qgx)(hv:qe 0 W0.heap.size W0 v c) :qhx Ya 120 #[v,.pointer (some ⟨Y,0,none⟩),.pointer (some ⟨Sg,0,none⟩)] W0 λe W'=>e=.returned (.bool false)/\∃G',ZM Sg w0 (L0++q2H ps c) G' W'/\Bod w0.heap.size w0.heap.size G0 G' W0 W':=by
 obtain⟨i0,n4,m5,m4,m3⟩:=qjy Tp.info29p;obtain⟨base,cap,rfl,s4,-⟩:=hv.cell;have n6:Y≠Sg:=λe=>by rw[e,g6] at d5;cases d5
 obtain⟨gx,e8⟩:∃gx,gx=pre Par.mx ps ps.length:=⟨_,rfl⟩;obtain⟨Bl,c8⟩:∃Bl,Bl=W0.heap.size:=⟨_,rfl⟩;have m7:q2H ps c=(kX c).filter λo=>!o.isEmpty && qu ps gx o:=by rw[e8];rfl
 rw[m7];have s1:=hI.size;refine(qjt (n:=6)).1 ?_;refine qnG Tp.x120 rfl trivial ?_ rfl;simp only[Tryz.ntmps120,qhk,qh1,qh7,qhj,qir,qhr,qhs,qi1,qke,qhn,qha]
 gi_wp2_with (first | (refine⟨trivial,?_⟩;gi_at_call 117;refine(qjt.2 (Yw _ _ _ _)).mono ?_;rintro e w2 ⟨rfl,rfl⟩))
 obtain⟨w3,b6⟩:∃w3,w3=W0.alloc (.cells #[.slice base c.length cap] 29):=⟨_,rfl⟩;rw[<- b6,<- c8];have c3:W0.grownBy w3 none:=by rw[b6];exact qgs _ _ none
 have s2:w3.heap.size=Bl+1:=by rw[b6,qgF,c8]
 have l3:w3.heap[Bl]?=some (.cells #[.slice base c.length cap] 29 (0,0)):=by rw[b6,c8];exact qgC _ _
 have n8:=(hv.kept c3 (by simp)).mono (qgw _) c3.size;have r9:=hI.sl;have n9:ZM Sg w0 L0 G0 w3:=hI.stp (ZS (n1:=w0.heap.size) (B:=w0.heap.size) c3) (qgw _) (qgw _);have n3:¬ G0 Bl:=λh=>by have:=(hI.lt _ h).2;omega
 have r8:w0.heap.size<=Bl:=by omega
 have r7:W0.heap.size<=Bl:=by omega
 have q7:=qgr e8;have d7:=qgr c8;have HI:=qgr hI;have r4:=qgr c3;have HL:=qgr hL;clear e8 c8 b6 hv c3 hL;refine vh rfl (by omega) (gf:=149) (lb:=#[.pointer (some ⟨Bl,0,none⟩)]) rfl trivial (enters_of Tp.x149 (by kernel_rfl) rfl)
  (Zt 5 Bl base cap c c (xT (by omega) k0) (λx hx=>by have:=hcm x hx;have:=hok.len;omega) (q35 k0) hcl w3 l3 n8) (qn0 _ _) (λ_=>rfl) (G0:=G0) n3 (by omega) (q6i)
  (λpr G W=>ZM Sg w0 (L0++(pr.map ql2).filter λo=>!o.isEmpty && qu ps gx o) G W/\Bod w0.heap.size w0.heap.size G0 G W0 W)
  (λ_ _ _ _=>False)
  (λs G A h k hk=>(h.1.lt k hk).2)
  (λs G A C h hst=>⟨h.1.stp hst (by omega) (by omega),hst.tape.trans h.2.tape,qgE h.2.size hst.size,λk hk hc hg=>(hst.keep k (qh2 hk h.2.size) (.inl ⟨by have:=d7.out;omega,by have:=d7.out;omega⟩)).trans (h.2.keep k hk hc hg),h.2.fp⟩)
  (λ_ _ _ _ _ h _=>h)
  ⟨by simpa using n9,jR r4.out⟩
  (λx=>{ tmps:=#[.slice base c.length cap,.pointer (some ⟨Y,0,none⟩),.pointer (some ⟨Sg,0,none⟩),qgz,.bool false,x.2,.slice base c.length cap,.func (.func 149) #[] #[.pointer (some ⟨Bl,0,none⟩)],x.2,qgz,qgz,qgz,qgz,qgz,qgz,qgz,qgz,qgz,qgz,qgz,qgz,qgz],defers:=[] }) ?assign ?body ?done ?stop
 case assign=>
  intro l x W K hK
  gi_wp2
  exact hK
 case body=>
  rintro l pr G x W ⟨hf,hb⟩ hx ⟨t,ht⟩;have b9:(L0++(pr.map ql2).filter λo=>!o.isEmpty && qu ps gx o).length<=1000:=by
   have h1:=qji (λo=>!o.isEmpty && qu ps gx o) (pr.map ql2);have h2:=congrArg List.length ht;have h3:=HL.out;unfold kX at h3;simp only[qih,qk0,qng] at h1 h2 ⊢;omega
  have hsz:=hf.size;have e6:=(hf.keep Y (qA d5) n6).trans d5;have k9:qw 0 W.heap.size W (.slice yb ps.length yc) ps:=by
   obtain⟨b',c',e,hl,hr⟩:=n7;refine⟨b',c',e,hl,λhne=>?_⟩;obtain⟨B,o,cs,fr,e1,e2,e3,e4,e5⟩:=hr hne;exact⟨B,o,cs,fr,e1,e2,by omega,(hf.keep B e3 (λe=>by cases e;rw[e4] at g6;cases g6)).trans e4,e5⟩
  obtain⟨c9,a9⟩:=hx;have b7:=m8 x.1 a9.1 a9.2.1 a9.2.2.1;have hxl:x.1.length<=5:=by have:=a9.1;omega
  obtain⟨x1,x2⟩:=x;obtain⟨xb,xc,h8,-,-⟩:=c9.cell;dsimp only at h8 b7 hxl a9;subst h8;have c1:W.cell? ⟨Y,0,none⟩=some (.slice yb ps.length yc):=q9 e6 rfl;have c2:W.cell? ⟨Y,1,none⟩=some (.int .i64 lim):=q9 e6 rfl;obtain⟨z,hz⟩:∃z,z=qu ps gx x1:=⟨_,rfl⟩;have k7:qhx Ya 114 #[.agg #[.slice yb ps.length yc,.int .i64 lim],.slice xb x1.length xc] W λe w'=>e=.returned (.bool z)/\W.grownBy w' none:=by
   rw[hz,q7.out];exact q1y 0 W.heap.size _ _ ps lim x1 W ⟨_,rfl,k9⟩ c9 (qgw _) hok b7
  have l9:=qgr k7;have HZ:=qgr hz;have p5:=qgr (show qe 0 W.heap.size W (.slice xb x1.length xc) x1 from c9);have s5:=qgr a9;have HF:=qgr hf;have HB:=qgr hb;have l8:=qgr b9;clear k7 hz c9 a9 hf hb e6 k9 b7 ht b9;by_cases hne:x1=[]
  ·subst hne
   gi_wp2
   refine⟨trivial,?_⟩
   gi_wp2
   refine⟨G,jR (qh6 _ _),?_,HB.out⟩;rw[qiH,qm0];simpa using HF.out
  ·have r6:0<x1.length:=qkf.2 hne;have k6:x1.isEmpty=false:=by cases x1<;>simp_all
   have p9:=qgr hne;clear hne;cases z with
   | false=>
    gi_wp2_with (first | (refine⟨trivial,?_⟩;gi_at_call 114;refine(CallsIn.inRound l (qjt.2 l9.out)).mono ?_;rintro e w5 ⟨rfl,b0⟩))
    refine⟨G,jR b0,?_,HB.out.trans (jR b0)⟩;rw[qiH,qm0];simpa[k6,<- HZ.out] using HF.out.stp (ZS (n1:=w0.heap.size) (B:=w0.heap.size) b0) (qgw _) (qgw _)
   | true=>
    obtain⟨sv,vals,q1,q2,q3,q4⟩:=HF.out.sg;generalize g7:(L0++(pr.map ql2).filter λo=>!o.isEmpty && qu ps gx o)=LL at q2 q4;rw[g7] at HF l8;have q0:=qgr g7;clear g7;obtain⟨sa,sn,sc,rfl⟩:=zK q2;have s3:=l8.out;have k8:Sg<W.heap.size:=by omega
    have n2:(qhw sa sn sc).ownBlock≠some Sg:=λe=>by have:=(HF.out.lt _ (q3 _ e)).1;omega
    gi_wp2_with (first | (refine⟨trivial,?_⟩;gi_at_call 114;refine(CallsIn.inRound l (qjt.2 l9.out)).mono ?_;rintro e w5 ⟨rfl,b0⟩;have a8:=qgr (b0.trans (qg w5 none));clear b0))
    have s0:w5.drew.cell? ⟨Sg,0,none⟩=some (.slice sa sn sc):=q9 (blk a8.out (by simp) q1) rfl;have l7:=qgr q1;have l6:=qgr q2;have g9:=qgr q3;have p7:=qgr q4;clear q1 q2 q3 q4;refine Kr (by rintro⟨_,_,h⟩;exact h) (by kernel_rfl) 5 (λw'=>w'.cell? ⟨Sg,0,none⟩=some (.slice sa sn sc)) (by kernel_rfl) (by kernel_rfl) s0 (λa7=>?_);simp only[qh1,qh7,qhj,qir,qhd,qhr,qhs,qi1,qhn,qha];refine tk 0 (h:=tk 1 (h:=?_));try go_frame
    refine rdy [2] ?_;refine cns 2 (λK hK=>?_) ?_
    ·skip;go_simp;go_at_call 84;refine(J9 0 w5.drew.heap.size _ x1 _ ((p5.out.kept a8.out (by simp)).mono (qgw _) a8.out.size) (qgw _) (.inl p9.out) (by omega)).mono ?_;rintro e w6 ⟨v',rfl,g5,g8⟩;obtain⟨vb,vc,rfl,-,-⟩:=g8.cell;have s6:=g5.cell s0 (by simp);have d6:=qgr g5;have q6:=qgr g8;clear g5 g8;refine hK.out _ _ (by first | exact a7 | exact s7 | exact s6 | exact(qgs _ _ none).cell a7 (by simp)) (λa7=>?_);clear hK K;try go_frame
     refine rdy [3] ?_;refine cns 3 (λK hK=>?_) ?_
     ·skip;go_simp;refine hK.out _ _ (by first | exact a7 | exact s7 | exact s6 | exact(qgs _ _ none).cell a7 (by simp)) (λa7=>?_);clear hK K;try go_frame
      refine rdy [4] ?_;refine cns 4 (λK hK=>?_) ?_
      ·skip;have l4:=jL (C:=w6) l6.out (λg e=>(a8.out.trans d6.out).block g (HF.out.lt g (g9.out g e)).2 (by simp));refine step_append_lies _ (by rfl) _ _ _ (by rfl) w0.heap.size 29 i0 _ 1 24 Tp.und36 n4 m5 m4 m3 rfl (by omega) (.slice sa sn sc) LL.length vals (by rfl) (by exact l4.alloc _) ⟨w6.heap.size,0,none⟩ 1 1 [.slice vb x1.length vc] (by rfl) (by rfl) (qit (cs:=#[.slice vb x1.length vc]) (t:=29) (fr:=(0,0)) (qgC w6 _)) (by simp[qjh]) (by omega) (by unfold qky;omega) (by omega) (by have:=a8.out.size;have:=d6.out.size;simp;omega) (w6.heap.size+1) (by simp) ?_;intro g' cp w7 b8 a6 d9 d8;have e9:W.grownBy w7 (qhw sa sn sc).ownBlock:=(((a8.out.trans d6.out).trans (qgs w6 (.cells #[.slice vb x1.length vc] 29) none)).but _).trans ⟨a6.os,a6.tape,a6.output,a6.size,a6.block⟩;have e7:w7.heap[Sg]?=some (.cells #[.slice sa sn sc] 36 (0,0)):=(e9.block Sg k8 (λe=>n2 e.symm)).trans l7.out;have s7:w7.cell? ⟨Sg,0,none⟩=some (.slice sa sn sc):=q9 e7 rfl;have z7:w7.frozen? ⟨Sg,0,none⟩=false:=qq e7;have h6:(w6.alloc (.cells #[.slice vb x1.length vc] 29)).grownBy w7 (qhw sa sn sc).ownBlock:=a6;have h9:qe W.heap.size w7.heap.size w7 (.slice vb x1.length vc) x1:=(((q6.out.alloc (.cells #[.slice vb x1.length vc] 29)).mono a8.out.size (qgw _)).kept h6 (λR e=>.inl (HF.out.lt R (g9.out R e.symm.symm)).2)).mono (qgw _) (by have:=h6.size;rw[qgF] at this;omega);have p6:=qgr h9;have p8:=qgr b8;have r3:=qgr e9;have r5:=qgr d9;have q5:=qgr d8;clear b8 a6 d9 d8 h6 h9 e7 e9 l4;refine hK.out _ _ (by first | exact a7 | exact s7 | exact s6 | exact(qgs _ _ none).cell a7 (by simp)) (λa7=>?_);clear hK K;try go_frame
       refine⟨by kernel_rfl,?_⟩;simp only[qhA,qio];go_wp2;obtain⟨m9,k5⟩:=HF.out.push l7.out l6.out g9.out p7.out r3.out p8.out (λg e=>by
        obtain rfl:g'=g:=by simpa[qhp] using e
        rcases r5.out with h | h
        ·exact .inl h
        ·right;have:=a8.out.size;have:=d6.out.size;omega) (λg e=>by
        obtain rfl:g'=g:=by simpa[qhp] using e
        exact q5.out) p6.out rfl
       refine⟨_,k5 w3.heap.size Bl (by omega) (by omega),?_,HB.out.trans (k5 _ _ (by omega) (by omega))⟩;rw[qiH,qm0,<- qjp,q0.out];simpa[k6,<- HZ.out] using m9
      exact qp.nil
     exact qp.nil
    exact qp.nil
 case done=>
  rintro D ys G W hD hxs ⟨hf,hb⟩ hK l5;have HF:=qgr hf;have HB:=qgr hb;have p4:=qgr hxs;clear hf hb hxs
  gi_wp2
  have hst:Stp w3.heap.size Bl G W (W.putObj D (.deferred none)):=kq _ hD l5;have m6:=HB.out.size;have hf:=HF.out.stp hst (by omega) (by omega);rw[p4.out] at hf;refine⟨by simp,.inl ⟨_,_,rfl,qnl hK,?_⟩⟩;refine⟨.bool false,by simp[qk1,Tryz.results120,go_sem],rfl,G,hf,hst.tape.trans HB.out.tape,qgE m6 hst.size,λk hk hc hg=>(hst.keep k (by omega) (.inl ⟨by have:=d7.out;omega,by have:=d7.out;omega⟩)).trans (HB.out.keep k hk hc hg),HB.out.fp⟩
 case stop=>
  rintro D c pr G W hD ⟨t,ht⟩ h hK l5;exact h.elim
end
section
open Go.RowKit
abbrev Rec:=List (List Int) × Nat
def Js(l:List Int):Int:=l[0]?.getD 0
def q70(L:List (List Int)):List Int:=L[L.length - 1]?.getD []
def okF(p:Rec)(s:List Int):Bool:=!(decide (0<p.1.length) && decide (Js s<=Js (q70 p.1))) && decide (p.2 &&& zy s=0)
def Qz(p:Rec)(s:List Int):Rec:=(p.1++[s],p.2 ||| zy s)
def ju(S:List (List Int))(now:List Rec):List Rec:=now.flatMap λp=>(S.filter (okF p)).map (Qz p)
def qbb:Nat->List (List Int)->Nat->List Rec->Option (Option (List (List Int)))
 | 0,_,_,_=>none
 | n+1,S,all,now=>match now.find? λp=>p.2 == all with
  | some p=>some (some p.1)
  | none=>if(ju S now).length<=1000 then(if ju S now=[] then some none else qbb n S all (ju S now)) else none
def vP(w:qgt)(c1 c2:qgx)(p:Rec):Prop:=RowsIn 0 w.heap.size w c1 p.1/\c2=.int .u8 (p.2:Nat)/\∀a n c,c1=.slice a n c->n<=c
def Qh(w:qgt)(v:qgx)(R:List Rec):Prop :=
 ∃base cap,v=.slice base R.length cap /\
  (R≠[]->∃B o cs fr,base=some ⟨B,o,none⟩/\B<w.heap.size/\w.heap[B]?=some (.cells cs 133 fr) /\
   ∀i,i<R.length->∃p c1 c2,R[i]?=some p/\cs[o+i*2]?=some c1/\cs[o+(i*2+1)]?=some c2/\vP w c1 c2 p)
theorem vP.kept{w w':qgt}{c1 c2:qgx}{p:Rec}(h:vP w c1 c2 p)(hg:w.grownBy w' none):vP w' c1 c2 p:=⟨(h.1.kept hg (by simp)).mono (qgw _) hg.size,h.2⟩
theorem Qh.at{w:qgt}{base:Option qi2}{cap k:Nat}{R:List Rec}(h:Qh w (.slice base R.length cap) R)(hk:k<R.length):∃B o p a n c,base=some ⟨B,o,none⟩/\R[k]?=some p/\n=p.1.length/\w.cell? ⟨B,o+k*2,none⟩=some (.slice a n c)/\w.cell? ⟨B,o+k*2+1,none⟩=some (.int .u8 (p.2:Nat))/\RowsIn 0 w.heap.size w (.slice a n c) p.1/\n<=c:=by
 obtain⟨a6,cap',e,hr⟩:=h;cases e;obtain⟨B,o,cs,fr,e1,e2,e3,e4⟩:=hr (by intro e;rw[e] at hk;simp at hk);obtain⟨p,c1,c2,h1,h2,h3,h4,rfl,h5⟩:=e4 k hk;obtain⟨a,c,rfl,-,-⟩:=h4.cell;exact⟨B,o,p,a,_,c,e1,h1,rfl,by simp[qhu,e3,h2],by rw[qmv];simp[qhu,e3,h3],h4,h5 _ _ _ rfl⟩
def ZV(R:List (qgx × qgx)):List qgx:=R.flatMap λx=>[x.1,x.2]
theorem q6q(R:List (qgx × qgx))(i:Nat)(h:i<R.length):(ZV R)[i*2]?=(R[i]?).map ql2/\(ZV R)[i*2+1]?=(R[i]?).map Prod.snd:=by
 induction R generalizing i with
 | nil=>simp at h
 | cons a t ih=>
  cases i with
  | zero=>simp[ZV]
  | succ i=>
   have:=ih i (by simpa using h);rw[show(i+1)*2=i*2+2 by omega];simpa[ZV] using this
theorem Qh.own{lo:Nat}{w:qgt}{v:qgx}{R:List Rec}{C:List (qgx × qgx)}(h:w.ownsRow lo 133 2 v R.length (ZV C))(hl:C.length=R.length)(hc:∀(i:Nat) (p:Rec) (x:qgx × qgx),R[i]?=some p->C[i]?=some x->vP w x.1 x.2 p):Qh w v R:=by
 obtain⟨h1,h2⟩:=h;rcases h2 with⟨rfl,h0⟩ | ⟨g,cap,cur,rfl,hb,hg,hn,hm,hs,ht⟩
 ·have:R=[]:=qhv h0;subst this;exact⟨none,0,rfl,λh=>absurd rfl h⟩
 ·refine⟨_,cap,rfl,λ_=>⟨g,0,cur,_,rfl,(qgu.1 hg).1,hg,λi hi=>?_⟩⟩;have e1:=(q6q C i (by omega)).1;have e2:=(q6q C i (by omega)).2;have hx:C[i]?=some C[i]:=qgB (by omega);have hp:R[i]?=some R[i]:=qgB hi;rw[hx] at e1 e2;rw[<- ht,qjc (by omega)] at e1 e2;refine⟨R[i],_,_,hp,by simpa using e1,by simpa using e2,hc i _ _ hp hx⟩
theorem q7B{w:qgt}{nb:Option qi2}{nc B:Nat}{L:List (List Int)}{x:qgx}{l:List Int}(ty:qh5)(hN:RowsIn 0 w.heap.size w (.slice nb L.length nc) L)(hx:w.cell? ⟨B,0,none⟩=some x)(a8:qe 0 w.heap.size w x l)(hl:L.length<=1000) :∃g cap w',(qlf #[36,36] ty #[.slice nb L.length L.length,.slice (some ⟨B,0,none⟩) 1 1]).run Ya w=.ok (.slice (some ⟨g,0,none⟩) (L.length+1) cap) w'/\w.grownBy w' none /\RowsIn 0 w'.heap.size w' (.slice (some ⟨g,0,none⟩) (L.length+1) cap) (L++[l])/\L.length+1<=cap:=by
 obtain⟨i0,b7,b0,a7,a9⟩:=qjy Tp.info29p;obtain⟨xb,xc,rfl,-,-⟩:=a8.cell;have a6:∀j v,([.slice xb l.length xc]:List qgx)[j]?=some v->w.cell? ((⟨B,0,none⟩:qi2).add j)=some v:=λj v hj=>by
  have:j=0:=by have:=(qh0.1 hj).1;simp at this;omega
  subst this;simp at hj;subst hj;simpa[Addr.add] using hx
 have key:∀(vals:List qgx) (zs:Array qgx) (cap:Nat),vals.length=L.length+1->(∀i,i<L.length+1->∃m y,(L++[l])[i]?=some m/\vals[i]?=some y/\qe 0 w.heap.size w y m) ->
   RowsIn 0 (w.drew.alloc (.cells (vals.toArray++zs) 29)).heap.size (w.drew.alloc (.cells (vals.toArray++zs) 29)) (.slice (some ⟨w.heap.size,0,none⟩) (L.length+1) cap) (L++[l]):=by
  intro vals zs cap b9 hv;have hh:(w.drew.alloc (.cells (vals.toArray++zs) 29)).heap[w.heap.size]?=some (.cells (vals.toArray++zs) 29 (0,0)):=qgC w.drew _;have hg:w.grownBy (w.drew.alloc (.cells (vals.toArray++zs) 29)) none:=(qg w none).trans (qgs _ _ none);refine⟨_,cap,by simp,by simp;omega,λ_=>⟨w.heap.size,0,_,_,rfl,qhz _,(qgu.1 hh).1,hh,λi hi=>?_⟩⟩;obtain⟨m,y,e1,e2,e3⟩:=hv i (by simpa using hi);refine⟨m,y,e1,?_,(e3.kept hg (by simp)).mono (qgw _) hg.size⟩;rw[qhd,qmm (by simp at hi ⊢;omega)];simpa using e2
 obtain⟨base,cap',e,-,hc⟩:=hN.cell;cases e;cases nb with
 | none=>
  have h0:L=[]:=by
   refine qin λhne=>?_;obtain⟨B,o,e1,_⟩:=hc hne;cases e1
  subst h0;have hr:=run_append_nil (P:=Ya) w 36 ty 29 i0 _ Tp.und36 b7 b0 ⟨B,0,none⟩ 1 1 [.slice xb l.length xc] (by rw[a7];rfl) a6 (by omega) (by omega) (by rw[a9];omega);have:=key [.slice xb l.length xc] (qjd (qhw none 0 0).cells (qkF w 1 0 29 - 1)) (qkF w 1 0 29) (by simp) (λi hi=>by
   have:i=0:=by simp at hi;omega
   subst this;exact⟨l,_,by simp,by simp,a8⟩)
  exact⟨_,_,_,hr,(qg w none).trans (qgs _ _ none),this,Q8 _ _ _ _⟩
 | some b=>
  by_cases hne:L=[]
  ·subst hne;have hr:=run_append_grow (P:=Ya) w 36 ty 29 i0 _ Tp.und36 b7 b0 b 0 0 [] (by simp) (λj v hj=>by simp at hj) ⟨B,0,none⟩ 1 1 [.slice xb l.length xc] (by rw[a7];rfl) a6 (by omega) (by omega) (growslice_fits (by omega) (by rw[a9];omega));have:=key [.slice xb l.length xc] (qjd (qhw none 0 0).cells (qkF w 1 0 29 - 1)) (qkF w 1 0 29) (by simp) (λi hi=>by
    have:i=0:=by simp at hi;omega
    subst this;exact⟨l,_,by simp,by simp,a8⟩)
   simp only[qhn,qhd] at hr;exact⟨_,_,_,by simpa using hr,(qg w none).trans (qgs _ _ none),by simpa using this,Q8 _ _ _ _⟩
  ·obtain⟨B',o,e1,-,-,-,h4⟩:=hc hne;cases e1;obtain⟨vals,b9,c3⟩:∃vals:List qgx,vals.length=L.length/\∀i,i<L.length->∃m y,L[i]?=some m/\vals[i]?=some y/\w.cell? ⟨B',o+i,none⟩=some y/\qe 0 w.heap.size w y m:=by
    refine⟨(qhl L.length).map λi=>(w.cell? ⟨B',o+i,none⟩).getD qgz,by simp,λi hi=>?_⟩;obtain⟨m,y,k1,k2,k3⟩:=h4 i hi;exact⟨m,y,k1,by simp[hi,k2],k2,k3⟩
   have b6:∀j v,vals[j]?=some v->w.cell? ((⟨B',o,none⟩:qi2).add j)=some v:=λj v hj=>by
    have c9:j<L.length:=by have:=(qh0.1 hj).1;omega
    obtain⟨m,y,k1,k2,k3,k4⟩:=c3 j c9;rw[k2] at hj;cases hj;exact kH k3
   have hr:=run_append_grow (P:=Ya) w 36 ty 29 i0 _ Tp.und36 b7 b0 ⟨B',o,none⟩ L.length L.length vals (by rw[a7];omega) b6 ⟨B,0,none⟩ 1 1 [.slice xb l.length xc] (by rw[a7];rfl) a6 (by omega) (by omega) (growslice_fits (by omega) (by rw[a9];omega));obtain⟨xv,b8⟩:∃xv,xv=qhw xb l.length xc:=⟨_,rfl⟩;have:=key (vals++[xv]) (qjd (qhw none 0 0).cells (qkF w (L.length+1) L.length 29 - (L.length+1))) (qkF w (L.length+1) L.length 29) (by simp;omega) (λi hi=>by
    by_cases c8:i<L.length
    ·obtain⟨m,y,k1,k2,k3,k4⟩:=c3 i c8;exact⟨m,y,by rw[qhh c8];exact k1,by rw[qhh (by omega)];exact k2,k4⟩
    ·have:i=L.length:=by omega
     subst this;exact⟨l,xv,by simp,by rw[<- b9];simp,by rw[b8];exact a8⟩)
   rw[b8] at this;have e:vals.toArray++[qhw xb l.length xc].toArray=(vals++[qhw xb l.length xc]).toArray:=by simp
   rw[e] at hr;exact⟨_,_,_,hr,(qg w none).trans (qgs _ _ none),this,Q8 _ _ _ _⟩
theorem Y7{ops:Array qiu}{o:qiu}{a:Act}{w:qgt}{K:Act->qgt->Prop}{Q:Exit->Act->qgt->Prop}{E:Prop}(a6:o.guard=none)(s x:qhF)(hop:o.op=.call { callee:=.builtin .append,args:=#[s,x],argTypes:=#[36,36] }){nb:Option qi2}{nc B:Nat}{L:List (List Int)}{y:qgx}{l:List Int}(hs:a.eval s=.slice nb L.length L.length)(hx:a.eval x=.slice (some ⟨B,0,none⟩) 1 1)(hN:RowsIn 0 w.heap.size w (.slice nb L.length nc) L)(hy:w.cell? ⟨B,0,none⟩=some y)(hyi:qe 0 w.heap.size w y l)(hl:L.length<=1000)(h:∀g cap w',w.grownBy w' none->RowsIn 0 w'.heap.size w' (.slice (some ⟨g,0,none⟩) (L.length+1) cap) (L++[l])->L.length+1<=cap->K (a.put o.dst (.slice (some ⟨g,0,none⟩) (L.length+1) cap)) w') :if qhD o (qjn ops a.tmps)=true then Oper.wp Ya o a w K Q else E:=by
 rw[if_pos (by simp[qhD,a6])];obtain⟨g,cap,w',hr,h2,h3,h4⟩:=q7B o.type hN hy hyi hl;unfold Oper.wp qk5;simp only[hop,resolve,invoke,builtin,qiw,qnc,qix,List.map_toArray,qjr,qln,hs,hx,hr];exact h g cap w' h2 h3 h4
theorem qf3{ps:List Par}{lim:Int}{Y Sg:Nat}{w0:qgt}{yb:Option qi2}{yc:Nat}(a9:w0.heap[Y]?=some (.cells #[.slice yb ps.length yc,.int .i64 lim] 91 (0,0)))(b6:qw 0 w0.heap.size w0 (.slice yb ps.length yc) ps){b7:Array qgx}{f0:Nat × Nat}(b0:w0.heap[Sg]?=some (.cells b7 36 f0))(hok:YOk ps lim)(a8:∀x:List Int,x.Nodup->(∀y∈x,0<=y/\y<ps.length)->POk ps lim x)(hN:((yp (zo ps.length) 0).flatMap kX).length<=1000) :Cb w0.heap.size (zo ps.length) 120 #[.pointer (some ⟨Y,0,none⟩),.pointer (some ⟨Sg,0,none⟩)] (λdone G W=>ZM Sg w0 (vC ps done) G W):=by
 refine⟨?_,?_,enters_of Tp.x120 (by kernel_rfl) rfl,?_⟩
 ·intro s G A C h hg;exact h.stp (ZS (n1:=w0.heap.size) (B:=w0.heap.size) hg) (qgw _) (qgw _)
 ·exact λs G A h k hk=>(h.lt k hk).2
 ·rintro done G W v c hI hv - a6 ⟨t,ht⟩;obtain⟨h1,h2,h3⟩:=q6n a6;have a7:(vC ps done).length+(kX c).length<=1000:=by
   have h4:∀L:List (List Int),(vC ps L).length<=(L.flatMap kX).length:=by
    intro L;induction L with
    | nil=>simp[vC]
    | cons a L ih=>
     have:=qji (λo:List Int=>!o.isEmpty && qu ps (pre Par.mx ps ps.length) o) (kX a);simp only[vC,qjA,qih,q2H] at ih ⊢;omega
   rw[ht] at hN;have h5:=h4 done;simp only[qpm,qjA,List.flatMap_nil,qih] at hN;omega
  refine(qbc ps lim Y Sg w0 yb yc a9 b6 b0 hok c h1 h2 (by have:=hok.len;omega) (λx _ hn hx=>a8 x hn λy hy=>h2 y (hx y hy)) (vC ps done) a7 G W hI v hv).mono ?_;rintro e W' ⟨he,G',hF,hb⟩;exact⟨he,G',by rw[q5f];exact hF,hb⟩
theorem qdc{ps:List Par}{lim:Int}{Y Sg:Nat}{w0:qgt}{yb:Option qi2}{yc:Nat}(a8:w0.heap[Y]?=some (.cells #[.slice yb ps.length yc,.int .i64 lim] 91 (0,0)))(a9:qw 0 w0.heap.size w0 (.slice yb ps.length yc) ps)(a6:w0.heap[Sg]?=some (.cells #[.slice none 0 0] 36 (0,0)))(hok:YOk ps lim)(a7:∀x:List Int,x.Nodup->(∀y∈x,0<=y/\y<ps.length)->POk ps lim x)(hN:((yp (zo ps.length) 0).flatMap kX).length<=1000){b:Option qi2}{k:Nat}(hI:qe 0 w0.heap.size w0 (.slice b ps.length k) (zo ps.length)) :qhx Ya 82 #[.slice b ps.length k,.func (.func 120) #[] #[.pointer (some ⟨Y,0,none⟩),.pointer (some ⟨Sg,0,none⟩)]] w0 λe W'=>e=.returned (.bool false)/\∃G',ZM Sg w0 (vC ps (yp (zo ps.length) 0)) G' W':=by
 have hl:ps.length<=5:=hok.len;have h:=qft (b:=b) (c:=k) (ll:=zo ps.length) (qf3 a8 a9 a6 hok a7 hN) (by rw[zk];omega) (xT (by rw[zk];omega) (q1t _)) (by rw[zk];exact hI) (G:=KB) ⟨rfl,rfl,rfl,qgw _,λ_ _ _=>rfl,λk h=>h.elim,qA a6,_,[],a6,qjg _ _ _ _,λg e=>by simp[qhp] at e,λi hi=>by simp[vC] at hi⟩;rw[zk] at h;exact h
theorem ZM.rows{Sg:Nat}{w0:qgt}{L:List (List Int)}{G:Nat->Prop}{W:qgt}(h:ZM Sg w0 L G W)(hne:L≠[])(hL:L.length<=1000):∃B c,W.heap[Sg]?=some (.cells #[.slice (some ⟨B,0,none⟩) L.length c] 36 (0,0))/\w0.heap.size<=B/\zm w0.heap.size W.heap.size B 0 W L:=by
 obtain⟨sv,vals,h1,h2,h3,h4⟩:=h.sg;obtain⟨hl,h2⟩:=h2;rcases h2 with⟨rfl,h0⟩ | ⟨g,cap,cur,rfl,hb,hg,hn,hm,hs,ht⟩
 ·exact absurd (qhv h0) hne
 ·refine⟨g,cap,h1,hb,cur,hg,λi hi=>?_⟩;obtain⟨l,x,e1,e2,e3,-⟩:=h4 i hi;refine⟨l,x,e1,?_,e3⟩;rw[<- ht,qjc (by omega)] at e2;simpa using e2
theorem zm.rows{lo hi B o:Nat}{w:qgt}{L:List (List Int)}(h:zm lo hi B o w L)(hB:B<hi)(hlo:lo<=B)(hl:L.length<=1000)(c:Nat):RowsIn lo hi w (.slice (some ⟨B,o,none⟩) L.length c) L:=by
 obtain⟨cs,h1,h2⟩:=h;exact⟨_,c,rfl,by omega,λ_=>⟨B,o,cs,_,rfl,hlo,hB,h1,h2⟩⟩
theorem q8A:∀m n:Fin 32,bits .and .u8 (m.1:Int) (n.1:Int)=((m.1 &&& n.1:Nat):Int):=by decide
theorem qbA:∀m n:Fin 32,bits .or .u8 (m.1:Int) (n.1:Int)=((m.1 ||| n.1:Nat):Int):=by decide
theorem Tp.info133p:(Ya.info? 133).map (λi=>(i.zero,i.size,i.bytes))=some (some (.agg #[.slice none 0 0,.int .u8 0]),2,32):=by kernel_rfl
theorem Tp.und134:Ya.underlying 134=some (.slice 133):=by rw[Tp.und];exact Tryz.underlying134
theorem RowsIn.keptT{lo hi O:Nat}{w w':qgt}{v:qgx}{L:List (List Int)}(h:RowsIn lo hi w v L)(hg:w.grownBy w' (some O)){cs':Array qgx}{e':qh5}{f':Nat × Nat}(hO:w.heap[O]?=some (.cells cs' e' f'))(h3:e'≠3)(a6:e'≠29):RowsIn lo hi w' v L:=by
 obtain⟨base,cap,rfl,hl,hr⟩:=h;refine⟨base,cap,rfl,hl,λhn=>?_⟩;obtain⟨B,o,cs,fr,e1,e2,e3,e4,e5⟩:=hr hn;refine⟨B,o,cs,fr,e1,e2,e3,blk hg (λe=>?_) e4,λi hi=>?_⟩
 ·cases e;rw[e4] at hO;cases hO;exact a6 rfl
 ·obtain⟨l,x,k1,k2,k3⟩:=e5 i hi;exact⟨l,x,k1,k2,k3.keptT hg hO h3⟩
def jG(lo:Nat)(w:qgt)(v:qgx)(R:List Rec):Prop :=
 ∃C:List (qgx × qgx),w.ownsRow lo 133 2 v R.length (ZV C)/\C.length=R.length/\∀(i:Nat) (p:Rec) (x:qgx × qgx),R[i]?=some p->C[i]?=some x->vP w x.1 x.2 p
theorem jG.nil(lo:Nat)(w:qgt):jG lo w (.slice none 0 0) []:=⟨[],qjg _ _ _ _,rfl,λi p x h=>by simp at h⟩
theorem jG.recs{lo:Nat}{w:qgt}{v:qgx}{R:List Rec}(h:jG lo w v R):Qh w v R:=by
 obtain⟨C,h1,h2,h3⟩:=h;exact Qh.own h1 h2 h3
theorem jG.kept{lo:Nat}{w w':qgt}{v:qgx}{R:List Rec}(h:jG lo w v R)(hg:w.grownBy w' none):jG lo w' v R:=by
 obtain⟨C,h1,h2,h3⟩:=h;exact⟨C,jL h1 λg e=>hg.block g (h1.lt g e).2 (by simp),h2,λi p x e1 e2=>(h3 i p x e1 e2).kept hg⟩
theorem q7D(C:List (qgx × qgx))(x:qgx × qgx):ZV (C++[x])=ZV C++[x.1,x.2]:=by simp[ZV]
theorem vP.app{lo n:Nat}{w w':qgt}{v c1 c2:qgx}{xs:List qgx}{p:Rec}(hq:vP w c1 c2 p)(h1:w.ownsRow lo 133 2 v n xs)(hg:w.grownBy w' v.ownBlock):vP w' c1 c2 p:=by
 refine⟨?_,hq.2⟩;rcases h1.2 with⟨rfl,_⟩ | ⟨g,cap,cur,rfl,hb,hgb,_⟩
 ·exact(RowsIn.kept hq.1 hg (by simp[qhp])).mono (qgw _) hg.size
 ·exact(RowsIn.keptT hq.1 (O:=g) hg hgb (by decide) (by decide)).mono (qgw _) hg.size
theorem q0j(S:List (List Int))(recs:List Rec):(ju S recs).length<=recs.length*S.length:=by
 unfold ju;induction recs with
 | nil=>simp
 | cons a t ih=>
  have:=qji (okF a) S;simp only[qjA,qih,qk0,qh1];rw[qny];omega
theorem jG.push{lo:Nat}{w w':qgt}{v v':qgx}{R:List Rec}{C:List (qgx × qgx)}{c1 c2:qgx}{p:Rec}(h1:w.ownsRow lo 133 2 v R.length (ZV C))(h2:C.length=R.length)(h3:∀(i:Nat) (p:Rec) (x:qgx × qgx),R[i]?=some p->C[i]?=some x->vP w x.1 x.2 p)(hg:w.grownBy w' v.ownBlock)(hown:w'.ownsRow lo 133 2 v' (R.length+1) (ZV C++[c1,c2]))(hr:vP w' c1 c2 p):jG lo w' v' (R++[p]):=by
 refine⟨C++[(c1,c2)],by rw[q7D,qih];exact hown,by simp[h2],λi q x e1 e2=>?_⟩;by_cases hi:i<R.length
 ·rw[qhh hi] at e1;rw[qhh (by omega)] at e2;exact(h3 i q x e1 e2).app h1 hg
 ·have a6:i=R.length:=by
   have:=(qh0.1 e1).1;simp at this;omega
  subst a6;rw[qid (qgw _)] at e1;rw[qid (by omega)] at e2;simp[h2] at e1 e2;subst e1 e2;exact hr
def qgg(S:List (List Int))(recs:List Rec):Prop:=recs.length<=1000/\∀p∈recs,(∀r∈p.1,r∈S)/\p.2<32/\p.1.length<=100
def q6g(S:List (List Int))(al:Nat)(R:List (List Int))(v:qgx)(w:qgt)(m:Nat):Prop:=∃recs,Qh w v recs/\qgg S recs/\(∀p∈recs,p.1.length+m<=100)/\qbb m S al recs=some (some R)
open Classical in
noncomputable def Jo(P:Nat->Prop):Nat->Nat
 | 0=>0
 | n+1=>if P (Jo P n) then Jo P n else n+1
theorem q3w(P:Nat->Prop):∀n,Jo P n<=n
 | 0=>qgw _
 | n+1=>by
  have:=q3w P n;unfold Jo;split<;>omega
theorem xk(P:Nat->Prop):∀n m,m<=n->P m->P (Jo P n)/\Jo P n<=m
 | 0,m,h,hp=>by
  obtain rfl:m=0:=by omega
  exact⟨hp,qgw _⟩
 | n+1,m,h,hp=>by
  unfold Jo;split
  ·rename_i hl
   refine⟨hl,?_⟩;by_cases hm:m<=n
   ·exact(xk P n m hm hp).2
   ·have:=q3w P n;omega
  ·rename_i hl
   have:¬ m<=n:=λhm=>hl (xk P n m hm hp).1;obtain rfl:m=n+1:=by omega
   exact⟨hp,qgw _⟩
noncomputable def q6r(S:List (List Int))(al:Nat)(R:List (List Int))(v:qgx)(w:qgt):Nat:=Jo (q6g S al R v w) 100
theorem q5j{S:List (List Int)}{al:Nat}{R:List (List Int)}{v:qgx}{w:qgt}{m:Nat}(hm:m<=100)(h:q6g S al R v w m):q6g S al R v w (q6r S al R v w):=(xk _ 100 m hm h).1
theorem q34{S:List (List Int)}{al:Nat}{R:List (List Int)}{v:qgx}{w:qgt}{m:Nat}(hm:m<=100)(h:q6g S al R v w m):q6r S al R v w<=m:=(xk _ 100 m hm h).2
theorem q5o{S:List (List Int)}{recs:List Rec}{k:Nat}{p:Rec}(h:recs[k]?=some p):ju S (recs.take (k+1))=ju S (recs.take k)++(S.filter (okF p)).map (Qz p):=by
 rw[qi7,h];simp[ju]
theorem q0q{S:List (List Int)}{recs:List Rec}{q:Rec}(h:q∈ju S recs):∃p∈recs,∃s∈S,q=Qz p s:=by
 simp only[ju,qnm,qkn,qm3] at h;obtain⟨p,hp,s,⟨hs,-⟩,rfl⟩:=h;exact⟨p,hp,s,hs,rfl⟩
theorem Za(z:Array qgx)(h:z.size=123):∃t:Nat->qgx,(∀(j:Nat) (v:qgx),z[j]?=some v->t j=v)/\z=#[t 0,t 1,t 2,t 3,t 4,t 5,t 6,t 7,t 8,t 9,t 10,t 11,t 12,t 13,t 14,t 15,t 16,t 17,t 18,t 19,t 20,t 21,t 22,t 23,t 24,t 25,t 26,t 27,t 28,t 29,t 30,t 31,t 32,t 33,t 34,t 35,t 36,t 37,t 38,t 39,t 40,t 41,t 42,t 43,t 44,t 45,t 46,t 47,t 48,t 49,t 50,t 51,t 52,t 53,t 54,t 55,t 56,t 57,t 58,t 59,t 60,t 61,t 62,t 63,t 64,t 65,t 66,t 67,t 68,t 69,t 70,t 71,t 72,t 73,t 74,t 75,t 76,t 77,t 78,t 79,t 80,t 81,t 82,t 83,t 84,t 85,t 86,t 87,t 88,t 89,t 90,t 91,t 92,t 93,t 94,t 95,t 96,t 97,t 98,t 99,t 100,t 101,t 102,t 103,t 104,t 105,t 106,t 107,t 108,t 109,t 110,t 111,t 112,t 113,t 114,t 115,t 116,t 117,t 118,t 119,t 120,t 121,t 122]:=by
 have h1:=xr z;rw[h] at h1;exact⟨λj=>z[j]?.getD qgz,λj v e=>by show z[j]?.getD qgz=v;rw[e];rfl,h1.trans rfl⟩
def swp(s:List Int)(i:Nat):List Int:=(s.set i (s[i+1]?.getD 0)).set (i+1) (s[i]?.getD 0)
theorem Zg(s:List Int)(i:Nat):(swp s i).length=s.length:=by simp[swp]
def yU(kn:List (List Int) × List (List Int))(m:List Int):List (List Int) × List (List Int):=if m∈kn.1 then kn else(kn.1++[m],kn.2++[m])
def q5H(n:Nat)(kn:List (List Int) × List (List Int))(s:List Int):List (List Int) × List (List Int):=(qhl (n - 1)).foldl (λkn i=>yU kn (swp s i)) kn
def yL(n:Nat)(K now:List (List Int)):List (List Int) × List (List Int):=now.foldl (q5H n) (K,[])
def jy(ps:List Par)(now:List (List Int)):Bool × List Int:=now.foldl (λb s=>if qu ps (pre Par.mx ps ps.length) (zc s)=true then(true,if b.1=true/\vN (zc s) b.2=false then b.2 else zc s) else b) (false,[])
def okS(ps:List Par)(lim:Int)(s:List Int):Bool:=decide (s.length=5) && (decide (zc s).Nodup && ((zc s).all (λx=>decide (0<=x/\x<ps.length)) && decide (qK ps (zc s)<=lim)))
theorem xX{ps:List Par}{lim:Int}{s:List Int}(h:okS ps lim s=true):s.length=5/\POk ps lim (zc s):=by
 simp only[okS,qh9,decide_eq_true_eq,qhE] at h;obtain⟨h1,h3,h4,h5⟩:=h;exact⟨h1,h4,h3,h5,by have:=KT s (λy=>y != -1);unfold zc;omega⟩
def Zw(ps:List Par)(lim:Int)(n:Nat):Nat->List (List Int)->List (List Int)->Int->Option (Option (Int × List Int))
 | 0,_,_,_=>none
 | f+1,K,now,st=>if now.all (okS ps lim)=true/\now.length<=1000 then
   (if(jy ps now).1=true then some (some (st,(jy ps now).2))
    else if(yL n K now).2.length<=1000 then(if(yL n K now).2=[] then some none else Zw ps lim n f (yL n K now).1 (yL n K now).2 (st+1)) else none)
  else none
def kC(L:List (List Int)):List qgx:=L.flatMap λs=>s.map (qhe .i64)
theorem q8k{L:List (List Int)}(h:∀s∈L,s.length=5)(i:Nat)(s:List Int)(hi:L[i]?=some s)(d:Nat)(hd:d<5):(kC L)[i*5+d]?=some (.int .i64 (s[d]?.getD 0)):=by
 induction L generalizing i with
 | nil=>simp at hi
 | cons s0 L ih=>
  have h0:=h s0 (by simp);unfold kC;rw[qjA];cases i with
  | zero=>
   simp at hi;subst hi;rw[qhh (by simp;omega),Nat.zero_mul,qhd,qis,qgB (by omega)];rfl
  | succ i=>
   rw[qid (by simp;omega),qk0,h0,show(i+1)*5+d - 5=i*5+d by omega];exact ih (λt ht=>h t (by simp[ht])) i (by simpa using hi)
theorem q5F(L:List (List Int))(s:List Int):kC (L++[s])=kC L++s.map (qhe .i64):=by simp[kC]
def jp(w:qgt)(v:qgx)(L:List (List Int)):Prop :=
 ∃base cap,v=.slice base L.length cap /\
  (L≠[]->∃B o cs fr,base=some ⟨B,o,none⟩/\w.heap[B]?=some (.cells cs 118 fr)/\∀i s,L[i]?=some s->∀d,d<5->cs[o+i*5+d]?=some (.int .i64 (s[d]?.getD 0)))
theorem jp.kept{w w':qgt}{v:qgx}{L:List (List Int)}(h:jp w v L)(hk:∀(k:Nat) (cs:Array qgx) (fr:Nat × Nat),w.heap[k]?=some (Obj.cells cs 118 fr)->w'.heap[k]?=some (Obj.cells cs 118 fr)):jp w' v L:=by
 obtain⟨base,cap,rfl,hr⟩:=h;refine⟨base,cap,rfl,λhne=>?_⟩;obtain⟨B,o,cs,fr,e1,e2,e3⟩:=hr hne;exact⟨B,o,cs,fr,e1,hk B _ _ e2,e3⟩
theorem jp.keptM{w w':qgt}{v:qgx}{L:List (List Int)}{M:Nat}(h:jp w v L)(hg:w.grownBy w' (some M))(hm:∀cs fr,w.heap[M]?≠some (Obj.cells cs 118 fr)):jp w' v L:=h.kept λk cs fr e=>(hg.block k (qA e) (λh=>hm cs fr (by cases h;exact e))).trans e
theorem zS.not{w:qgt}{M:Nat}{K:List (List Int)}(h:zS w M K)(cs:Array qgx)(t:qh5)(fr:Nat × Nat):w.heap[M]?≠some (Obj.cells cs t fr):=by
 obtain⟨es,clock,h1,-⟩:=h;rw[h1];intro e;cases e
theorem jp.own{lo:Nat}{w:qgt}{v:qgx}{L:List (List Int)}(h:w.ownsRow lo 118 5 v L.length (kC L))(h5:∀s∈L,s.length=5):jp w v L:=by
 obtain⟨h1,h2⟩:=h;rcases h2 with⟨rfl,h0⟩ | ⟨g,cap,cur,rfl,hb,hg,hn,hm,hs,ht⟩
 ·have:L=[]:=qhv h0;subst this;exact⟨none,0,rfl,λh=>absurd rfl h⟩
 ·refine⟨_,cap,rfl,λ_=>⟨g,0,cur,_,rfl,hg,λi s hi d hd=>?_⟩⟩;have a6:=(qh0.1 hi).1;have:=q8k h5 i s hi d hd;rw[<- ht,qjc (by omega)] at this;simpa using this
theorem jp.at{w:qgt}{base:Option qi2}{n cap k:Nat}{L:List (List Int)}(h:jp w (.slice base n cap) L){s:List Int}(hk:L[k]?=some s):∃B o,base=some ⟨B,o,none⟩/\B<w.heap.size/\w.cell? ⟨B,o+k*5,none⟩=some (.int .i64 (s[0]?.getD 0))/\w.cell? ⟨B,o+k*5+1,none⟩=some (.int .i64 (s[1]?.getD 0))/\w.cell? ⟨B,o+k*5+2,none⟩=some (.int .i64 (s[2]?.getD 0))/\w.cell? ⟨B,o+k*5+3,none⟩=some (.int .i64 (s[3]?.getD 0))/\w.cell? ⟨B,o+k*5+4,none⟩=some (.int .i64 (s[4]?.getD 0)):=by
 obtain⟨a6,cap',e,hr⟩:=h;cases e;obtain⟨B,o,cs,fr,e1,e2,e3⟩:=hr (by intro e;rw[e] at hk;simp at hk);have c:=e3 k s hk;exact⟨B,o,e1,qA e2,q9 e2 (c 0 (by omega)),q9 e2 (c 1 (by omega)),q9 e2 (c 2 (by omega)),q9 e2 (c 3 (by omega)),q9 e2 (c 4 (by omega))⟩
theorem Tp.info118p:(Ya.info? 118).map (λi=>(i.zero,i.size,i.bytes))=some (some (.agg #[.int .i64 0,.int .i64 0,.int .i64 0,.int .i64 0,.int .i64 0]),5,40):=by kernel_rfl
theorem Tp.und121:Ya.underlying 121=some (.slice 118):=by rw[Tp.und];exact Tryz.underlying121
end
section
open Go Go.RowKit Go.Co
noncomputable def mX8:qj9:=sqB (sqB (sqB (sqB (sqB (sqB (sqB (inn (sqB (Tryz.f54.body.getD .skip)))))))))
noncomputable def q3p:qj9:=sqB (sqB mX8)
noncomputable def mLA:qj9:=inn (sqB (sqA q3p))
noncomputable def qav:qj9:=sqB (sqB q3p)
noncomputable def mLB:qj9:=inn (sqB (sqA qav))
noncomputable def mB3:qj9:=inn (sqA (sqB (sqB (inn mLB))))
noncomputable def mLC:qj9:=inn (sqB (sqB mB3))
def Kp(ks:List Nat)(z z':Array qgx):Prop:=∀j∈ks,z'[j]?=z[j]?
theorem qb0(ks:List Nat)(z z':Array qgx)(hz:z'.size=123)(hk:Kp ks z z'):z'=((qhl 123).map λj=>bif ks.elem j then z[j]?.getD qgz else z'[j]?.getD qgz).toArray:=by
 have h1:=xr z';rw[hz] at h1;refine h1.trans (congrArg List.toArray (List.map_congr_left λj hj=>?_));cases hc:ks.elem j with
 | false=>rfl
 | true=>
  show z'[j]?.getD qgz=z[j]?.getD qgz;rw[hk j (List.elem_iff.1 hc)]
def j6(k:Nat)(kn:List (List Int) × List (List Int))(s:List Int):List (List Int) × List (List Int):=(qhl k).foldl (λkn i=>yU kn (swp s i)) kn
theorem jP(k:Nat)(kn:List (List Int) × List (List Int))(s:List Int):j6 (k+1) kn s=yU (j6 k kn s) (swp s k):=by simp[j6,qkG]
theorem q78(n:Nat)(kn:List (List Int) × List (List Int))(s:List Int):q5H n kn s=j6 (n - 1) kn s:=rfl
theorem q7l(kn:List (List Int) × List (List Int))(m:List Int):(yU kn m).2.length<=kn.2.length+1:=by
 unfold yU;split<;>simp
theorem q47(k:Nat)(kn:List (List Int) × List (List Int))(s:List Int):(j6 k kn s).2.length<=kn.2.length+k:=by
 induction k with
 | zero=>simp[j6]
 | succ k ih=>rw[jP];have:=q7l (j6 k kn s) (swp s k);omega
theorem q4x{kn:List (List Int) × List (List Int)}{m:List Int}(h:∀s∈kn.2,s.length=5)(hm:m.length=5):∀s∈(yU kn m).2,s.length=5:=by
 unfold yU;split
 ·exact h
 ·intro s hs;rcases qiF.1 hs with h1 | h1
  ·exact h s h1
  ·rw[qib.1 h1];exact hm
theorem q8n{k:Nat}{kn:List (List Int) × List (List Int)}{s:List Int}(h:∀s∈kn.2,s.length=5)(hs:s.length=5):∀t∈(j6 k kn s).2,t.length=5:=by
 induction k with
 | zero=>simpa[j6] using h
 | succ k ih=>rw[jP];exact q4x ih (by rw[Zg];exact hs)
theorem vS{P:qgG}{c:qj9}{Q:Exit->Act->qgt->Prop}{a:Act}{w:qgt}(F:qgt->Prop)(hF:F w)(h:∀u,F u->c.wp P Q a u):c.wp P Q a w:=h w hF
structure qge(Sb i:Nat)(s:List Int)(a b:Int)(w:qgt):Prop where
 fst:w.cell? ⟨Sb,i,none⟩=some (.int .i64 a)
 snd:w.cell? ⟨Sb,i+1,none⟩=some (.int .i64 b)
 mid:∀W:qgt,W.heap=w.heap->(W.setCell ⟨Sb,i,none⟩ (.int .i64 b)).cell? ⟨Sb,i+1,none⟩=some (.int .i64 b)/\(W.setCell ⟨Sb,i,none⟩ (.int .i64 b)).frozen? ⟨Sb,i+1,none⟩=false
 fin:∀W:qgt,W.heap=w.heap->((W.setCell ⟨Sb,i,none⟩ (.int .i64 b)).setCell ⟨Sb,i+1,none⟩ (.int .i64 a)).heap[Sb]?=some (.cells ((swp s i).map (qhe .i64)).toArray 118 (0,0))
theorem zF{w:qgt}{Sb i:Nat}{s:List Int}{a b:Int}(h:w.heap[Sb]?=some (.cells (s.map (qhe .i64)).toArray 118 (0,0)))(ha:s[i]?=some a)(hb:s[i+1]?=some b):qge Sb i s a b w where
 fst:=q9 h (by simp[ha])
 snd:=q9 h (by simp[hb])
 mid W e:=by
  have h1:=qj (o:=i) (v:=.int .i64 b) (show W.heap[Sb]?=_ by rw[e];exact h);refine⟨q9 h1 ?_,qq h1⟩;rw[qi3 (by omega)];simp[hb]
 fin W e:=by
  have h1:=qj (o:=i+1) (v:=.int .i64 a) (qj (o:=i) (v:=.int .i64 b) (show W.heap[Sb]?=_ by rw[e];exact h));rw[h1];unfold swp;rw[ha,hb];simp[List.map_set]
theorem qcg{s:List Int}{i:Nat}{a b:Int}(ha:s[i]?=some a)(hb:s[i+1]?=some b):swp (swp s i) i=s:=by
 apply qlm;intro j;simp only[swp,ha,hb,List.getElem?_set,qlh];have h1:=(qh0.1 ha).1;have h2:=(qh0.1 hb).1;by_cases e1:i+1=j
 ·subst e1;rw[hb];simp[h1,h2]
 ·by_cases e2:i=j
  ·subst e2;rw[ha];simp[h1,h2]
  ·simp[e1,e2]
theorem q9k{s:List Int}{i:Nat}{a b:Int}(ha:s[i]?=some a)(hb:s[i+1]?=some b):(swp s i)[i]?=some b/\(swp s i)[i+1]?=some a:=by
 have h1:=(qh0.1 ha).1;have h2:=(qh0.1 hb).1;unfold swp;rw[ha,hb];constructor
 ·rw[qjq (by omega)];simp[h1]
 ·simp[h2]
structure McI(w1 u:qgt)(M Sb:Nat)(kn:List (List Int) × List (List Int))(nv:qgx)(s:List Int):Prop where
 g:w1.grownBy u (some M)
 m:zS u M kn.1
 o:u.ownsRow w1.heap.size 118 5 nv kn.2.length (kC kn.2)
 n:∀b,nv.ownBlock=some b->b≠Sb
 s:u.heap[Sb]?=some (.cells (s.map (qhe .i64)).toArray 118 (0,0))
theorem McI.kept{w1 u u':qgt}{M Sb:Nat}{kn:List (List Int) × List (List Int)}{nv:qgx}{s s':List Int}(h:McI w1 u M Sb kn nv s)(hM:M<w1.heap.size)(a6:w1.heap.size<=Sb)(hg:u.grownBy u' (some Sb))(hs:u'.heap[Sb]?=some (.cells (s'.map (qhe .i64)).toArray 118 (0,0))):McI w1 u' M Sb kn nv s' where
 g:=h.g.andThen hg (λj e=>.inl (by cases e;exact a6))
 m:=h.m.kept (hg.block M (qh2 hM h.g.size) (λe=>by cases e;omega))
 o:=h.o.kept hg (.inr λe=>h.n _ e rfl)
 n:=h.n
 s:=hs
theorem McI.swap{w1 u:qgt}{M Sb i:Nat}{kn:List (List Int) × List (List Int)}{nv:qgx}{s:List Int}{a b:Int}(h:McI w1 u M Sb kn nv s)(hM:M<w1.heap.size)(a6:w1.heap.size<=Sb)(ha:s[i]?=some a)(hb:s[i+1]?=some b) :McI w1 (((u.setCell ⟨Sb,i,none⟩ (.int .i64 b)).setCell ⟨Sb,i+1,none⟩ (.int .i64 a)).drew) M Sb kn nv (swp s i) :=
 h.kept hM a6 (((qh _ _ _ _).trans (qh _ _ _ _)).trans (qg _ _)) ((zF h.s ha hb).fin u rfl)
theorem McI.put{w1 u u':qgt}{M Sb:Nat}{K nx:List (List Int)}{nv:qgx}{s m:List Int}(h:McI w1 u M Sb (K,nx) nv s)(hM:M<w1.heap.size){o:Obj}(hu:u'=u.putObj M o)(hm:zS u' M (K++[m])):McI w1 u' M Sb (K++[m],nx) nv s:=by
 have hb:=h.g.size;have hg:u.grownBy u' (some M):=by rw[hu];exact qko u M o
 refine⟨h.g.trans hg,hm,h.o.kept hg (.inr λe=>?_),h.n,(hg.block Sb (qA h.s) (λe=>?_)).trans h.s⟩
 ·have:=(h.o.lt M e).1;omega
 ·cases e;exact h.m.not _ _ _ h.s
theorem McI.push{w1 u u':qgt}{M Sb:Nat}{K nx:List (List Int)}{oa:Option qi2}{om oc:Nat}{s m:List Int}(h:McI w1 u M Sb (K,nx) (.slice oa om oc) s)(hM:M<w1.heap.size){x:Obj}{gi cap:Nat}(hg:(u.alloc x).grownBy u' (qhw oa om oc).ownBlock)(ho:u'.ownsRow w1.heap.size 118 5 (.slice (some ⟨gi,0,none⟩) (nx.length+1) cap) (nx.length+1) (kC nx++m.map (qhe .i64)))(a7:(qhw oa om oc).ownBlock=some gi\/gi=u.heap.size+1) :McI w1 u' M Sb (K,nx++[m]) (.slice (some ⟨gi,0,none⟩) (nx.length+1) cap) s:=by
 have hb:=h.g.size;have hs:=qA h.s;have a6:=qgs u x none;refine⟨(h.g.andThen a6 (by simp)).andThen hg (λj e=>.inl (h.o.lt j e).1),h.m.kept ((hg.block M (by rw[qgF];omega) (λe=>?_)).trans (a6.block M (by omega) (by simp))),?_,λb e=>?_,(hg.block Sb (by rw[qgF];omega) (λe=>h.n Sb e.symm rfl)).trans (qr h.s)⟩
 ·have:=(h.o.lt M e.symm).1;omega
 ·rw[q5F,qih];exact ho
 ·have e':gi=b:=by simpa[qhp] using e
  subst e';rcases a7 with h1 | h1
  ·exact h.n _ h1
  ·omega
theorem KP{kn:List (List Int) × List (List Int)}{m:List Int}(h:m∈kn.1):yU kn m=kn:=if_pos h
theorem KQ{kn:List (List Int) × List (List Int)}{m:List Int}(h:m∉kn.1):yU kn m=(kn.1++[m],kn.2++[m]):=if_neg h
def cCh:List Nat:=[0,1,2,3,4,5,6,7,8,9,10,12,13,14,15,16,17,18,19,23,24,25,26,27,28,29,30,31,32,33,34,35,36,37,38,39,40,41,42,43,44,45,46,47,48,49,50,51,52,53,54,55,56,57,58,59,60,61,62,63,64,65,66,67,68,69,70,115,116,117,118,119,120,121,122]
theorem qfB(z:Array qgx)(hz:z.size=123)(w1 w:qgt)(R:Act->qgt->Prop)(n1 M Sb:Nat)(st:Int)(s:List Int)(K nx:List (List Int))(nv:qgx)(h9:z[9]?=some (.map (some M)))(l4:z[11]?=some nv)(k9:z[12]?=some (.int .i64 st))(k8:z[19]?=some (.pointer (some ⟨Sb,0,none⟩)))(k7:z[70]?=some (.int .i64 n1))(k6:z[71]?=some (.int .i64 0))(hn:n1<=4)(hs:s.length=5)(hM:M<w1.heap.size)(e6:w1.heap.size<=Sb)(hS:w.heap[Sb]?=some (.cells (s.map (qhe .i64)).toArray 118 (0,0)))(hg:w1.grownBy w (some M))(hK:zS w M K)(ho:w.ownsRow w1.heap.size 118 5 nv nx.length (kC nx))(hne:∀b,nv.ownBlock=some b->b≠Sb)(p3:nx.length+n1<=100000)(hst:0<=st/\st<=100000)(h5:∀s∈nx,s.length=5)(hR:∀(z':Array qgx) (g6:qgx) w',z'.size=123->z'[11]?=some g6->Kp cCh z z'->w1.grownBy w' (some M)->zS w' M (j6 n1 (K,nx) s).1->w'.ownsRow w1.heap.size 118 5 g6 (j6 n1 (K,nx) s).2.length (kC (j6 n1 (K,nx) s).2)->R ⟨z',[]⟩ w') :mLC.wp Ya (qlo 4 (yh R)) ⟨z,[]⟩ w:=by
 obtain⟨i0,m8,m7,m6,m5⟩:=qjy Tp.info118p;obtain⟨t,ht,rfl⟩:=Za z hz;have e9:=ht 9 _ h9;have l6:=ht 11 _ l4;have g5:=ht 12 _ k9;have e8:=ht 19 _ k8;have e7:=ht 70 _ k7;have l5:=ht 71 _ k6;clear ht h9 l4 k9 k8 k7 k6;rw[e9,l6,g5,e8,e7,l5];have HE:=qgr (qhb e9 (qhb g5 (qhb e8 e7)));clear e9 l6 g5 e8 e7 l5;have HR:=qgr hR;have HG:=qgr hg;have HS:=qgr hS;have HK:=qgr hK;have HO:=qgr ho;have n2:=qgr hne;have H5:=qgr h5;clear hR hg hS hK ho hne hz h5;simp only[mLC,mB3,mLB,qav,q3p,mX8,qmx,qgD,sqA,sqB,inn];go_wp2;go_loopw [11,71] (λnv iv wr=>∃i:Nat,iv=.int .i64 i/\i<=n1/\McI w1 wr M Sb (j6 i (K,nx) s) nv s) (λ_ iv _=>(n1 - qia iv).toNat)
 case atStart=>exact⟨0,rfl,by omega,HG.out,HK.out,HO.out,n2.out,HS.out⟩
 case round=>
  obtain⟨i,rfl,hi,hI⟩:=hrel;obtain⟨oa,om,oc,rfl⟩:=zK hI.o;have HI:=qgr hI;have d5:=q47 i (K,nx) s;by_cases hlt:i<n1
  ·obtain⟨a,ha⟩:∃a,s[i]?=some a:=⟨_,qgB (by omega)⟩;obtain⟨b,hb⟩:∃b,s[i+1]?=some b:=⟨_,qgB (by omega)⟩;obtain⟨q,hq⟩:∃q,q=swp s i:=⟨_,rfl⟩;have h8:q[i]?=some b:=by rw[hq];exact(q9k ha hb).1
   have g9:q[i+1]?=some a:=by rw[hq];exact(q9k ha hb).2
   have g8:swp q i=s:=by rw[hq];exact qcg ha hb
   have e4:q.length=5:=by rw[hq,Zg];exact hs
   have n9:(i:Int)<(n1:Int):=by omega
   have p5:IntKind.i64.wrap (i:Int)=(i:Int):=qhm _ (by omega);have p4:IntKind.i64.wrap ((i:Int)+1)=(i:Int)+1:=qhm _ (by omega);have n8:IntKind.i64.wrap (st+1)=st+1:=qhm _ (by omega);have p9:((i:Int)+1).toNat=i+1:=by omega
   have q1:(i:Int)<5:=by omega
   have q0:(i:Int)+1<5:=by omega
   have p7:(0:Int)<=(i:Int)+1:=by omega
   have hu:(0:Int)<=(i:Int):=by omega
   have ca:=(zF hI.s ha hb).fst;have cb:=(zF hI.s ha hb).snd;have za:=qq hI.s (o:=i);have zb:=qq hI.s (o:=i+1);have b7:=qgr (zF hI.s ha hb).mid;have SW:=qgr (hI.swap hM e6 ha hb);have AB:=qgr (qhb ha hb);have HQ:=qgr (qhb h8 g9);have d7:=qgr (qhb g8 hq);clear hI ha hb h8 g9 g8;go_wp2_with (fail);refine qU 12 (λw'=>w'.cell? ⟨Sb,i+1,none⟩=some (.int .i64 b)/\w'.frozen? ⟨Sb,i+1,none⟩=false) (by kernel_rfl) (by kernel_rfl) ⟨cb,zb⟩ (λa6=>?_);simp only[qh1,qh7,qhj,qir,qhd,qhr,qhs,qi1,qhn,qha];refine tk 0 (h:=tk 1 (h:=tk 2 (h:=tk 3 (h:=tk 4 (h:=tk 5 (h:=tk 6 (h:=tk 7 (h:=tk 8 (h:=?_)))))))));try go_frame
   refine rdy [9] ?_;refine cns 9 (λK hK=>?_) ?_
   ·skip;go_simp;refine hK.out _ _ (by first | exact a6 | exact⟨cb,zb⟩ | exact b7.out _ rfl) (λa6=>?_);clear hK K;try go_frame
    refine tk 10 (h:=?_);try go_frame
    refine rdy [11] ?_;refine cns 11 (λK hK=>?_) ?_
    ·skip;go_simp;refine hK.out _ _ (by first | exact a6 | exact⟨cb,zb⟩ | exact b7.out _ rfl) (λa6=>?_);clear hK K;try go_frame
     refine⟨by kernel_rfl,?_⟩;simp only[qhA,qio];go_upto_region 26 with(fail);refine vS (λu=>McI w1 u M Sb (j6 i (K,nx) s) (.slice oa om oc) q) (by rw[d7.out.2];exact SW.out) (λu b8=>?_);have d8:=qgr b8;obtain⟨m0,m1,m2,m3,m4,b6⟩:=q8b e4;have a7:=b8.s;rw[b6] at a7;have b0:=q9 a7 (o:=0) (v:=.int .i64 m0) rfl;have b1:=q9 a7 (o:=1) (v:=.int .i64 m1) rfl;have b2:=q9 a7 (o:=2) (v:=.int .i64 m2) rfl;have b3:=q9 a7 (o:=3) (v:=.int .i64 m3) rfl;have b4:=q9 a7 (o:=4) (v:=.int .i64 m4) rfl;obtain⟨vl,b9⟩:=b8.m.look q e4;obtain⟨kn,e5⟩:∃kn,kn=j6 i (K,nx) s:=⟨_,rfl⟩;rw[<- e5] at b9 d8 HI d5;have l8:=qgr e5;have l7:=qgr b6;clear b8 a7 e5 a6;obtain⟨K1,c3⟩:=kn;dsimp only at b9 d5;by_cases a9:q∈K1
     ·rw[decide_eq_true a9,b6] at b9;have c9:(qmq 120 (.map (some M)) (.agg #[.int .i64 m0,.int .i64 m1,.int .i64 m2,.int .i64 m3,.int .i64 m4]) true).run Ya u=.ok (.tuple #[.int .i64 vl,.bool true]) u:=b9;clear b9 b6;have HV:=qgr (KP (kn:=(K1,c3)) a9);clear a9;go_upto_region 30 with(fail);clear b0 b1 b2 b3 b4 c9;clear ca cb za zb b7 SW AB;have a8:=d8.out;obtain⟨ha,hb⟩:=HQ.out;have ca:=(zF a8.s ha hb).fst;have cb:=(zF a8.s ha hb).snd;have za:=qq a8.s (o:=i);have zb:=qq a8.s (o:=i+1);have b7:=qgr (zF a8.s ha hb).mid;have SW:=qgr (a8.swap hM e6 ha hb);have AB:=qgr (qhb ha hb);clear a8 ha hb;go_wp2_with (fail);refine qU 12 (λw'=>w'.cell? ⟨Sb,i+1,none⟩=some (.int .i64 a)/\w'.frozen? ⟨Sb,i+1,none⟩=false) (by kernel_rfl) (by kernel_rfl) ⟨cb,zb⟩ (λa6=>?_);simp only[qh1,qh7,qhj,qir,qhd,qhr,qhs,qi1,qhn,qha];refine tk 0 (h:=tk 1 (h:=tk 2 (h:=tk 3 (h:=tk 4 (h:=tk 5 (h:=tk 6 (h:=tk 7 (h:=tk 8 (h:=?_)))))))));try go_frame
      refine rdy [9] ?_;refine cns 9 (λK hK=>?_) ?_
      ·skip;go_simp;refine hK.out _ _ (by first | exact a6 | exact⟨cb,zb⟩ | exact b7.out _ rfl) (λa6=>?_);clear hK K;try go_frame
       refine tk 10 (h:=?_);try go_frame
       refine rdy [11] ?_;refine cns 11 (λK hK=>?_) ?_
       ·skip;go_simp;refine hK.out _ _ (by first | exact a6 | exact⟨cb,zb⟩ | exact b7.out _ rfl) (λa6=>?_);clear hK K;try go_frame
        refine⟨by kernel_rfl,?_⟩;simp only[qhA,qio];go_wp2;go_roundw
        case rel=>exact⟨i+1,by simp,by omega,by rw[jP,<- d7.out.2,<- l8.out,HV.out];rw[d7.out.1] at SW;exact SW.out⟩
        case measure=>simp[qia];omega
       exact qp.nil
      exact qp.nil
     ·rw[decide_eq_false a9,b6] at b9;have c9:(qmq 120 (.map (some M)) (.agg #[.int .i64 m0,.int .i64 m1,.int .i64 m2,.int .i64 m3,.int .i64 m4]) true).run Ya u=.ok (.tuple #[.int .i64 vl,.bool false]) u:=b9;clear b9;obtain⟨ob,p8,d9,k5⟩:=d8.out.m.add q e4 a9 (st+1);rw[b6] at d9;have g7:(qiz 120 (.map (some M)) (.agg #[.int .i64 m0,.int .i64 m1,.int .i64 m2,.int .i64 m3,.int .i64 m4]) (.int .i64 (st+1))).run Ya u=.ok () (u.putObj M ob):=d9;have HV:=qgr (KQ (kn:=(K1,c3)) a9);have n3:=qgr k5;clear d9 b6 a9 k5;go_upto_region 29 with(fail);clear b0 b1 b2 b3 b4 c9 g7;refine vS (λu=>McI w1 u M Sb (K1++[q],c3) (.slice oa om oc) q) (d8.out.put hM rfl (n3.out _ (qlH (qh2 hM d8.out.g.size)))) (λu5 b8=>?_);have l9:=qgr b8;have b6:=l7.out;have a7:=b8.s;rw[b6] at a7;have b0:=q9 a7 (o:=0) (v:=.int .i64 m0) rfl;have b1:=q9 a7 (o:=1) (v:=.int .i64 m1) rfl;have b2:=q9 a7 (o:=2) (v:=.int .i64 m2) rfl;have b3:=q9 a7 (o:=3) (v:=.int .i64 m3) rfl;have b4:=q9 a7 (o:=4) (v:=.int .i64 m4) rfl;have p6:=b8.g.size;clear b8 a7 b6;go_upto_region 30 with(first
       | (at_builtin;go_must (refine qoc _ (by rfl) _ _ _ (by rfl) w1.heap.size 118 i0 _ 5 40 Tp.und121 m8 m7 m6 m5 rfl (by omega) (.slice oa om oc) c3.length (kC c3) (by rfl) (by exact l9.out.o.alloc _) ⟨u5.heap.size,0,none⟩ 1 1 [.int .i64 m0,.int .i64 m1,.int .i64 m2,.int .i64 m3,.int .i64 m4] (by rfl) (by rfl) (qit (cs:=#[.int .i64 m0,.int .i64 m1,.int .i64 m2,.int .i64 m3,.int .i64 m4]) (t:=118) (fr:=(0,0)) (qgC u5 _)) (by simp[qjh]) (by omega) (by unfold qky;omega) (by omega) (by simp;omega) (u5.heap.size+1) (by simp) ?_);intro gi cap u6 c8 d6 k0 hgl;have n6:=qgr d6;have m9:=qgr c8;have n7:=qgr k0;clear d6 c8 k0))
      clear b0 b1 b2 b3 b4;have n4:=qgr (McI.push (m:=q) l9.out hM n6.out (by rw[l7.out];exact m9.out) n7.out);clear ca cb za zb b7 SW AB;have a8:=n4.out;obtain⟨ha,hb⟩:=HQ.out;have ca:=(zF a8.s ha hb).fst;have cb:=(zF a8.s ha hb).snd;have za:=qq a8.s (o:=i);have zb:=qq a8.s (o:=i+1);have b7:=qgr (zF a8.s ha hb).mid;have SW:=qgr (a8.swap hM e6 ha hb);have AB:=qgr (qhb ha hb);clear a8 ha hb;go_wp2_with (fail);refine qU 12 (λw'=>w'.cell? ⟨Sb,i+1,none⟩=some (.int .i64 a)/\w'.frozen? ⟨Sb,i+1,none⟩=false) (by kernel_rfl) (by kernel_rfl) ⟨cb,zb⟩ (λa6=>?_);simp only[qh1,qh7,qhj,qir,qhd,qhr,qhs,qi1,qhn,qha];refine tk 0 (h:=tk 1 (h:=tk 2 (h:=tk 3 (h:=tk 4 (h:=tk 5 (h:=tk 6 (h:=tk 7 (h:=tk 8 (h:=?_)))))))));try go_frame
      refine rdy [9] ?_;refine cns 9 (λK hK=>?_) ?_
      ·skip;go_simp;refine hK.out _ _ (by first | exact a6 | exact⟨cb,zb⟩ | exact b7.out _ rfl) (λa6=>?_);clear hK K;try go_frame
       refine tk 10 (h:=?_);try go_frame
       refine rdy [11] ?_;refine cns 11 (λK hK=>?_) ?_
       ·skip;go_simp;refine hK.out _ _ (by first | exact a6 | exact⟨cb,zb⟩ | exact b7.out _ rfl) (λa6=>?_);clear hK K;try go_frame
        refine⟨by kernel_rfl,?_⟩;simp only[qhA,qio];go_wp2;go_roundw
        case rel=>exact⟨i+1,by simp,by omega,by rw[jP,<- d7.out.2,<- l8.out,HV.out];rw[d7.out.1] at SW;exact SW.out⟩
        case measure=>simp[qia];omega
       exact qp.nil
      exact qp.nil
    exact qp.nil
   exact qp.nil
  ·obtain rfl:i=n1:=by omega
   clear hI;go_wp2;refine HR.out _ _ wr rfl rfl ?_ HI.out.g HI.out.m HI.out.o;rw[<- HE.out.1,<- HE.out.2.1,<- HE.out.2.2.1,<- HE.out.2.2.2]
   repeat(refine qnA.2 ⟨rfl,?_⟩)
   exact qnH _
def je(n1:Nat)(K:List (List Int))(L:List (List Int)):List (List Int) × List (List Int):=L.foldl (j6 n1) (K,[])
theorem q0D(n1:Nat)(K L:List (List Int))(s:List Int):je n1 K (L++[s])=j6 n1 (je n1 K L) s:=by simp[je]
theorem q1D(n:Nat)(K L:List (List Int)):yL n K L=je (n - 1) K L:=rfl
theorem qbf(n1:Nat)(K:List (List Int))(L:List (List Int)):(je n1 K L).2.length<=L.length*n1:=by
 have key:∀(L:List (List Int)) (kn:List (List Int) × List (List Int)),(L.foldl (j6 n1) kn).2.length<=kn.2.length+L.length*n1:=by
  intro L;induction L with
  | nil=>intro kn;simp
  | cons s L ih=>
   intro kn;have h1:=ih (j6 n1 kn s);have h2:=q47 n1 kn s;simp only[qje,qh1,qny];omega
 have:=key L (K,[]);rw[qh7,qhd] at this;exact this
theorem J4{n1:Nat}{K L:List (List Int)}(h:∀s∈L,s.length=5):∀s∈(je n1 K L).2,s.length=5:=by
 have key:∀(L:List (List Int)) (kn:List (List Int) × List (List Int)),(∀s∈L,s.length=5)->(∀s∈kn.2,s.length=5)->∀s∈(L.foldl (j6 n1) kn).2,s.length=5:=by
  intro L;induction L with
  | nil=>intro kn _ h;simpa using h
  | cons s L ih=>intro kn h1 h2;exact ih _ (λt ht=>h1 t (by simp[ht])) (q8n h2 (h1 s (by simp)))
 exact key L (K,[]) h (by simp)
def bCh:List Nat:=[0,1,2,3,4,5,6,7,8,9,10,12,13,14,15,16,17,18,23,24,25,26,27,28,29,30,31,32,33,34,35,36,37,38,39,40,41,42,43,44,45,46,47,48,49,50,51,52,53,54,55,56,57,58,59,60,61,62,116,117,118,119,120,121,122]
theorem qek:∀j∈(63::bCh),j∈cCh:=by decide
theorem qfC(z:Array qgx)(hz:z.size=123)(w1:qgt)(R:Act->qgt->Prop)(n n1 M:Nat)(st:Int)(L K:List (List Int))(pb nb:Option qi2)(pc nc:Nat)(h1:z[1]?=some (.slice pb n pc))(h9:z[9]?=some (.map (some M)))(d7:z[11]?=some (.slice none 0 0))(d6:z[12]?=some (.int .i64 st))(d5:z[61]?=some (.slice nb L.length nc))(c9:z[62]?=some (.int .i64 L.length))(h63:z[63]?=some (.int .i64 0))(hn:n<=5)(g6:n1=n - 1)(hM:M<w1.heap.size)(hL:jp w1 (.slice nb L.length nc) L)(h5:∀s∈L,s.length=5)(hl:L.length<=1000)(hK:zS w1 M K)(hst:0<=st/\st<=100000)(hR:∀(z':Array qgx) (a6:qgx) w',z'.size=123->z'[11]?=some a6->Kp bCh z z'->w1.grownBy w' (some M)->zS w' M (je n1 K L).1->w'.ownsRow w1.heap.size 118 5 a6 (je n1 K L).2.length (kC (je n1 K L).2)->R ⟨z',[]⟩ w') :mLB.wp Ya (qlo 2 (yh R)) ⟨z,[]⟩ w1:=by
 obtain⟨t,ht,rfl⟩:=Za z hz;have e1:=ht 1 _ h1;have e9:=ht 9 _ h9;have d9:=ht 11 _ d7;have b7:=ht 12 _ d6;have b0:=ht 61 _ d5;have a9:=ht 62 _ c9;have d8:=ht 63 _ h63;clear ht h1 h9 d7 d6 d5 c9 h63;rw[e1,e9,d9,b7,b0,a9,d8];have HE:=qgr (qhb e1 (qhb e9 (qhb b7 (qhb b0 a9))));clear e1 e9 d9 b7 b0 a9 d8 hz;have HR:=qgr hR;have HL:=qgr hL;have HK:=qgr hK;have H5:=qgr h5;clear hR hL hK h5;simp only[mLB,qav,q3p,mX8,qmx,qgD,sqA,sqB,inn];go_wp2;go_loopw [11,63] (λnv iv wr=>∃k:Nat,iv=.int .i64 k/\k<=L.length/\w1.grownBy wr (some M)/\zS wr M (je n1 K (L.take k)).1/\wr.ownsRow w1.heap.size 118 5 nv (je n1 K (L.take k)).2.length (kC (je n1 K (L.take k)).2)) (λ_ iv _=>(L.length - qia iv).toNat)
 case atStart=>exact⟨0,rfl,by omega,qh6 _ _,HK.out,qjg _ _ _ _⟩
 case round=>
  obtain⟨k,rfl,hk,hG,a8,hO⟩:=hrel;have HG:=qgr hG;have e4:=qgr a8;have HO:=qgr hO;by_cases hlt:k<L.length
  ·obtain⟨s,hs⟩:∃s,L[k]?=some s:=⟨_,qgB hlt⟩;have e5:=H5.out s (qhc hs);have b9:=HL.out.keptM hG (λcs fr=>HK.out.not _ _ _);obtain⟨B,o,rfl,e6,c0,c1,c2,c3,c4⟩:=b9.at hs;have e7:(k:Int)<(L.length:Int):=by omega
   have g5:IntKind.i64.wrap ((k:Int)+1)=(k:Int)+1:=qhm _ (by omega);have e8:IntKind.i64.wrap ((n:Int) - 1)=(n:Int) - 1:=qhm _ (by omega);have b8:=qbf n1 K (L.take k);rw[qk3,qp1 hk] at b8;have HS:=qgr hs;obtain⟨a0,a1,a2,a3,a4,rfl⟩:=q8b e5;clear hG a8 hO b9 hs;go_upto_region 22 with(fail);obtain⟨Sb,a7⟩:∃Sb,Sb=wr.heap.size:=⟨_,rfl⟩;rw[<- a7];refine vS (λu=>McI w1 u M Sb (je n1 K (L.take k)) u11 [a0,a1,a2,a3,a4]) ⟨HG.out.andThen (qgs _ _ none) (by simp),e4.out.kept ((qgs wr _ none).block M (by have:=HG.out.size;omega) (by simp)),HO.out.alloc _,λb e=>by have:=(HO.out.lt b e).2;omega,by rw[a7];exact qgC _ _⟩ (λu hI=>?_);have HI:=qgr hI;have c8:w1.heap.size<=Sb:=by have:=HG.out.size;omega
   clear hI a7 c0 c1 c2 c3 c4 e6;go_wp2;all_goals
    refine Code.wp_mono (jZ (R:=λa u=>∃x:Nat->qgx,a=⟨#[t 0,.slice pb n pc,t 2,t 3,t 4,t 5,t 6,t 7,t 8,.map (some M),t 10,x 11,.int .i64 st,t 13,t 14,t 15,t 16,t 17,t 18,x 19,x 20,x 21,x 22,t 23,t 24,t 25,t 26,t 27,t 28,t 29,t 30,t 31,t 32,t 33,t 34,t 35,t 36,t 37,t 38,t 39,t 40,t 41,t 42,t 43,t 44,t 45,t 46,t 47,t 48,t 49,t 50,t 51,t 52,t 53,t 54,t 55,t 56,t 57,t 58,t 59,t 60,.slice (some ⟨B,o,none⟩) L.length nc,.int .i64 L.length,.int .i64 k,x 64,x 65,x 66,x 67,x 68,x 69,x 70,x 71,x 72,x 73,x 74,x 75,x 76,x 77,x 78,x 79,x 80,x 81,x 82,x 83,x 84,x 85,x 86,x 87,x 88,x 89,x 90,x 91,x 92,x 93,x 94,x 95,x 96,x 97,x 98,x 99,x 100,x 101,x 102,x 103,x 104,x 105,x 106,x 107,x 108,x 109,x 110,x 111,x 112,x 113,x 114,x 115,t 116,t 117,t 118,t 119,t 120,t 121,t 122],[]⟩/\w1.grownBy u (some M)/\zS u M (je n1 K (L.take (k+1))).1/\u.ownsRow w1.heap.size 118 5 (x 11) (je n1 K (L.take (k+1))).2.length (kC (je n1 K (L.take (k+1))).2)) ?_) ?_;rotate_left
    ·refine xu (c':=mLC) (by simp only[mLC,mB3,mLB,qav,q3p,mX8,qmx,qgD,sqA,sqB,inn]) ?_;refine qfB _ rfl w1 u _ n1 M Sb st [a0,a1,a2,a3,a4] (je n1 K (L.take k)).1 (je n1 K (L.take k)).2 u11 rfl rfl rfl rfl (congrArg some (congrArg (qhe .i64) (by omega))) rfl (by omega) rfl hM c8 HI.out.s HI.out.g HI.out.m HI.out.o HI.out.n (by have:k*n1<=1000*4:=Nat.mul_le_mul (by omega) (by omega);omega) hst (J4 λs hs=>H5.out s (qkE hs)) ?_;intro z' a6 w' b1 b2 b3 b4 b5 b6;rw[show(je n1 K (L.take k)).1=(je n1 K (L.take k)).1 from rfl] at b5;have hT:j6 n1 ((je n1 K (L.take k)).1,(je n1 K (L.take k)).2) [a0,a1,a2,a3,a4]=je n1 K (L.take (k+1)):=by rw[qi7,HS.out];exact(q0D _ _ _ _).symm
     rw[hT] at b5 b6;refine⟨λj=>z'[j]?.getD qgz,congrArg (λz=>(⟨z,[]⟩:Act)) ((qb0 (63::bCh) _ z' b1 (λj hj=>b3 j (qek j hj))).trans ?_),b4,b5,?_⟩
     ·rfl
     ·show w'.ownsRow _ _ _ (z'[11]?.getD qgz) _ _;rw[b2];exact b6
    ·rintro a u2 ⟨x,rfl,g1,g2,g3⟩;have G1:=qgr g1;have G2:=qgr g2;have G3:=qgr g3;clear g1 g2 g3;go_wp2;go_roundw
     case rel=>exact⟨k+1,by simp,by omega,G1.out,G2.out,G3.out⟩
     case measure=>simp[qia];omega
  ·obtain rfl:k=L.length:=by omega
   clear hG a8 hO;go_wp2;have h1:=e4.out;have h2:=HO.out;rw[qiy] at h1 h2;refine HR.out _ _ wr rfl rfl ?_ HG.out h1 h2;rw[<- HE.out.1,<- HE.out.2.1,<- HE.out.2.2.1,<- HE.out.2.2.2.1,<- HE.out.2.2.2.2]
   repeat(refine qnA.2 ⟨rfl,?_⟩)
   exact qnH _
def qfu(ps:List Par)(b:Bool × List Int)(s:List Int):Bool × List Int:=if qu ps (pre Par.mx ps ps.length) (zc s)=true then(true,if b.1=true/\vN (zc s) b.2=false then b.2 else zc s) else b
theorem q6c(ps:List Par)(L:List (List Int))(s:List Int):jy ps (L++[s])=qfu ps (jy ps L) s:=by rw[jy,List.foldl_append];rfl
def aKl:List Nat:=[0,1,2,3,4,5,6,7,8,9,10,11,12,13,14,15,18,19,20,21,22,23,24,25,26,27,28,29,30,31,32,33,34,35,36,37,38,39,40,41,42,56,57,58,59,60,61,62,63,64,65,66,67,68,69,70,71,72,73,74,75,76,77,78,79,80,81,82,83,84,85,86,87,88,89,90,91,92,93,94,95,96,97,98,99,100,101,102,103,104,105,106,107,108,109,110,111,112,113,114,115,116,117,118,119,120,121,122]
theorem qfD(z:Array qgx)(hz:z.size=123)(w1:qgt)(R:Act->qgt->Prop)(Yb Lb:Nat)(ps:List Par)(lim:Int)(pv:qgx)(L:List (List Int))(nb:Option qi2)(nc:Nat)(h7:z[7]?=some (.pointer (some ⟨Yb,0,none⟩)))(k0:z[13]?=some (.pointer (some ⟨Lb,0,none⟩)))(h9:z[14]?=some (.func (.func 103) #[.pointer (some ⟨Lb,0,none⟩)] #[]))(h8:z[41]?=some (.slice nb L.length nc))(g9:z[42]?=some (.int .i64 L.length))(g8:z[43]?=some (.int .i64 0))(hY:w1.heap[Yb]?=some (.cells #[pv,.int .i64 lim] 91 (0,0)))(hP:qw 0 Lb w1 pv ps)(g7:w1.heap[Lb]?=some (.cells #[.func (.func 99) #[] #[],.slice none 0 0,.bool false] 108 (0,0)))(hok:YOk ps lim)(hL:jp w1 (.slice nb L.length nc) L)(hall:L.all (okS ps lim)=true)(hl:L.length<=1000)(hR:∀(z':Array qgx) (bv:qgx) w',z'.size=123->Kp aKl z z'->w1.grownBy w' (some Lb)->w'.heap[Lb]?=some (.cells #[.func (.func 99) #[] #[],bv,.bool (jy ps L).1] 108 (0,0))->qe 0 w'.heap.size w' bv (jy ps L).2->R ⟨z',[]⟩ w') :mLA.wp Ya (qlo 0 (yh R)) ⟨z,[]⟩ w1:=by
 obtain⟨t,ht,rfl⟩:=Za z hz;have e7:=ht 7 _ h7;have d9:=ht 13 _ k0;have d8:=ht 14 _ h9;have d7:=ht 41 _ h8;have d6:=ht 42 _ g9;have k5:=ht 43 _ g8;clear ht h7 k0 h9 h8 g9 g8;obtain⟨yb,yc,rfl,l7,-⟩:=hP.cell;rw[e7,d9,d8,d7,d6,k5];have HE:=qgr (qhb e7 (qhb d9 (qhb d8 (qhb d7 d6))));clear e7 d9 d8 d7 d6 k5 hz;have HR:=qgr hR;have HY:=qgr hY;have HP:=qgr hP;have b9:=qgr g7;have k8:=qgr hok;have HL:=qgr hL;have HA:=qgr (qhE.1 hall);clear hR hY hP g7 hok hL hall;simp only[mLA,q3p,mX8,qmx,qgD,sqA,sqB,inn];go_wp2;go_loopw [43] (λiv wr=>∃(k:Nat) (bv:qgx),iv=.int .i64 k/\k<=L.length/\w1.grownBy wr (some Lb)/\wr.heap[Lb]?=some (.cells #[.func (.func 99) #[] #[],bv,.bool (jy ps (L.take k)).1] 108 (0,0))/\qe 0 wr.heap.size wr bv (jy ps (L.take k)).2) (λiv _=>(L.length - qia iv).toNat)
 case atStart=>exact⟨0,_,rfl,by omega,qh6 _ _,b9.out,qe.nil _ _ _⟩
 case round=>
  obtain⟨k,bv,rfl,hk,hG,hB,hI⟩:=hrel;have HG:=qgr hG;have HB:=qgr hB;have HI:=qgr hI;by_cases hlt:k<L.length
  ·obtain⟨s,hs⟩:∃s,L[k]?=some s:=⟨_,qgB hlt⟩;have c8:=HA.out s (qhc hs);obtain⟨k9,e6⟩:=xX c8;have g6:=HL.out.keptM hG (λcs fr e=>by rw[b9.out] at e;injection e with e;injection e with _ e _;exact absurd e (by decide));obtain⟨B,o,rfl,l4,c0,c1,c2,c3,c4⟩:=g6.at hs;have l6:(k:Int)<(L.length:Int):=by omega
   have l8:IntKind.i64.wrap ((k:Int)+1)=(k:Int)+1:=qhm _ (by omega);have HS:=qgr hs;have e4:=qgr e6;obtain⟨a0,a1,a2,a3,a4,rfl⟩:=q8b k9;clear hG hB hI g6 hs c8 e6;go_upto_region 13 with(fail);obtain⟨X,hX⟩:∃X,X=wr.heap.size:=⟨_,rfl⟩;rw[<- hX];refine vS (λu=>(w1.grownBy u (some Lb)/\u.heap[Lb]?=some (.cells #[.func (.func 99) #[] #[],bv,.bool (jy ps (L.take k)).1] 108 (0,0))/\qe 0 u.heap.size u bv (jy ps (L.take k)).2)/\u.heap[X]?=some (.cells #[.int .i64 a0,.int .i64 a1,.int .i64 a2,.int .i64 a3,.int .i64 a4] 118 (0,0))) ⟨⟨HG.out.andThen (qgs _ _ none) (by simp),qr HB.out,(HI.out.alloc _).mono (qgw _) (by rw[qgF];omega)⟩,by rw[hX];exact qgC _ _⟩ (λu hF=>?_);obtain⟨⟨f1,f2,f3⟩,f4⟩:=hF;have F1:=qgr f1;have F2:=qgr f2;have F3:=qgr f3;have b0:=q9 f4 (o:=0) (v:=.int .i64 a0) rfl;have b1:=q9 f4 (o:=1) (v:=.int .i64 a1) rfl;have b2:=q9 f4 (o:=2) (v:=.int .i64 a2) rfl;have b3:=q9 f4 (o:=3) (v:=.int .i64 a3) rfl;have b4:=q9 f4 (o:=4) (v:=.int .i64 a4) rfl;have c9:=qaE [a0,a1,a2,a3,a4] rfl;have d5:=qgr (show ∀w,qhx Ya 113 #[.agg #[.int .i64 a0,.int .i64 a1,.int .i64 a2,.int .i64 a3,.int .i64 a4]] w λe w'=>∃v,e=.returned v/\w.grownBy w' none/\qe w.heap.size w'.heap.size w' v (zc [a0,a1,a2,a3,a4]) from c9);have a6:=qgr (show jy ps (L.take k++[[a0,a1,a2,a3,a4]])=if qu ps (pre Par.mx ps ps.length) (zc [a0,a1,a2,a3,a4])=true then(true,if(jy ps (L.take k)).1=true/\vN (zc [a0,a1,a2,a3,a4]) (jy ps (L.take k)).2=false then(jy ps (L.take k)).2 else zc [a0,a1,a2,a3,a4]) else jy ps (L.take k) from q6c ps (L.take k) [a0,a1,a2,a3,a4]);have k6:=qgr (show L.take k++[[a0,a1,a2,a3,a4]]=L.take (k+1) by rw[qi7,HS.out];rfl);generalize zc [a0,a1,a2,a3,a4]=l at e4 d5 a6;clear f1 f2 f3 f4 c0 c1 c2 c3 c4 l4 c9 hX;go_upto_region 14 with(first
    | (go_at_call 113;refine(d5.out _).mono ?_;rintro e w2 ⟨v,rfl,hg2,e8⟩;have a8:=qgr hg2;have b7:=qgr (e8.mono (qhz _) (qgw _));clear hg2 e8))
   clear b0 b1 b2 b3 b4;obtain⟨vb,vc,rfl,-,-⟩:=b7.out.cell;have gY:=F1.out.andThen a8.out (by simp);have y2:=blk gY (λe=>by cases e;have h:=HY.out;rw[b9.out] at h;injection h with h;injection h with _ h _;exact absurd h (by decide)) HY.out;have y0:=q9 y2 (o:=0) rfl;have y1:=q9 y2 (o:=1) rfl;have k7:=qgr ((HP.out.kept gY (λR e=>by cases e;exact .inr (qgw _))).mono (qgw _) (qqa (qh2 (qA b9.out) gY.size)));have GY:=qgr gY;clear gY y2;cases hst:qu ps (pre Par.mx ps ps.length) l with
   | false=>
    have b6:=qgr hst;clear hst;go_wp2_with (first
     | (go_at_call 114;refine(q1y 0 _ _ _ ps lim l w2 ⟨_,rfl,k7.out⟩ b7.out (qgw _) k8.out e4.out).mono ?_;rintro e w3 ⟨rfl,a9⟩;rw[b6.out];have a7:=qgr a9;clear a9))
    go_roundw
    case rel=>
     rw[k6.out,if_neg (by rw[b6.out];simp)] at a6;have hg:=a8.out.trans a7.out;refine⟨k+1,bv,by simp,by omega,F1.out.andThen hg (by simp),?_,?_⟩
     ·rw[a6.out];exact blk hg (by simp) F2.out
     ·rw[a6.out];exact(F3.out.kept hg (by simp)).mono (qgw _) hg.size
    case measure=>simp[qia];omega
   | true=>
    have b6:=qgr hst;clear hst;go_wp2_with (first
     | (go_at_call 114;refine(q1y 0 _ _ _ ps lim l w2 ⟨_,rfl,k7.out⟩ b7.out (qgw _) k8.out e4.out).mono ?_;rintro e w3 ⟨rfl,a9⟩;rw[b6.out];have a7:=qgr a9;clear a9)
     | (go_at_call 103;refine(q7p Lb (jy ps (L.take k)).1 bv _ (jy ps (L.take k)).2 l w3 (blk (a8.out.trans a7.out) (by simp) F2.out) ((F3.out.kept (a8.out.trans a7.out) (by simp)).mono (qgw _) (a8.out.trans a7.out).size) ((b7.out.kept a7.out (by simp)).mono (qgw _) a7.out.size)).mono ?_;rintro e w4 ⟨rfl,e9,e5⟩;have b8:=qgr e9;have l5:=qgr e5;clear e9 e5))
    go_roundw
    case rel=>
     rw[k6.out,if_pos b6.out] at a6;have hg:=a8.out.trans a7.out;have g5:=blk hg (by simp) F2.out;refine⟨k+1,_,by simp,by omega,(F1.out.andThen hg (by simp)).trans b8.out,by rw[a6.out];exact l5.out,?_⟩;rw[a6.out];dsimp only;split
     ·exact(((F3.out.kept hg (by simp)).mono (qgw _) hg.size).keptT b8.out g5 (by decide)).mono (qgw _) b8.out.size
     ·exact(((b7.out.kept a7.out (by simp)).mono (qgw _) a7.out.size).keptT b8.out g5 (by decide)).mono (qgw _) b8.out.size
    case measure=>simp[qia];omega
  ·obtain rfl:k=L.length:=by omega
   clear hG hB hI;go_wp2;have h1:=HB.out;have h2:=HI.out;rw[qiy] at h1 h2;refine HR.out _ _ wr rfl ?_ HG.out h1 h2;rw[<- HE.out.1,<- HE.out.2.2.1,<- HE.out.2.1,<- HE.out.2.2.2.1,<- HE.out.2.2.2.2]
   repeat(refine qnA.2 ⟨rfl,?_⟩)
   exact qnH _
end
end Go.Proofs.YtidgnkmjgioapaaGreat
