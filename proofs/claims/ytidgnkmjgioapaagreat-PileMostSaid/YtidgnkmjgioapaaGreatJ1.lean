/-
  Part 4 of the proof. gladstonelaw04.PileMost answers true for every list of numbers, and leaves its argument as it was. No conditions.
-/
import Derived.Test.YtidgnkmjgioapaaGreatG2
import Derived.Test.YtidgnkmjgioapaaGreatL1
import Derived.RangeFuncBox
import Derived.DeepKeys
import Derived.RangeFuncNested
import Derived.RangeFuncBound
import Derived.RangeFuncCalls
import Derived.RangeFuncLeaves
import Derived.Shelf.Abstract
import Derived.WalkKit
import Derived.OwnWalkIn
import Derived.TacticsInMore
import Derived.LoopNIn
import Derived.LoopIn
import Derived.Laws.CopyOwn
import Derived.Laws.CopyRow
import Derived.Laws.IdiomCopy
import Derived.Recover
import Derived.Defers
import Derived.RangeFuncOwn
import Derived.WalkMore
set_option maxRecDepth 100000
set_option maxHeartbeats 8000000
set_option linter.all false
open And renaming intro → q8D
open Array renaming getElem?_eq_some_iff → q45,getElem?_setIfInBounds_ne → qbj,getElem?_setIfInBounds_self_of_lt → qd8,replicate_succ → qao,replicate_zero → qat
open Bool renaming and_eq_true → q9b,false_eq_true → qa5
open Classical renaming byContradiction → qbw,em → qd6
open Go renaming Addr → qb9,Calls → qaD,Code → qcm,FuncId → qbe,MapEntry → qdm,Oper → qbz,Operand → qaH,Program → q8b,TypeId → q8u,Value → q58,World → q3g,bodyPost_ret → qcG,callsIn_wide → qcx,grownCap → qdB,heap_alloc_new → q7j,info_parts → qch,undef → q5s
open Go.Builtin renaming zeroCells → qck
open Go.Calls renaming quiet_of_same → qc4
open Go.Exit renaming inBlock → qe5
open Go.Instr renaming checkKey → qdx,mapUpdate → qbE
open Go.IntWalk renaming i64_in → qa7
open Go.Lib renaming hid → q1D
open Go.Region renaming binds → qb8,wanted → qb0
open Go.Result renaming andThen_ok → qbC
open Go.RowKit renaming intOf → qb2
open Go.RowKit.Below renaming heap_setCell → qbi
open Go.Sem renaming run → qbk,run_bind → qbB
open Go.Value renaming int → q9q,oneCell' → qbD,ownBlock → qak,slice → qbp
open Go.World renaming cell? → qal,grownBy_alloc → q34,news_of_block → qbg,ownsRow_nil → qcb,setCell → qci,size_alloc → q8f
open Go.World.grownBy renaming refl → q8j
open List renaming all_eq_true → qau,append_assoc → qc1,append_toArray → qdi,cons_append → q9y,drop_eq_getElem_cons → qcq,drop_eq_nil_of_le → qdf,drop_succ_cons → qbh,drop_zero → qbH,eq_nil_of_length_eq_zero → qbo,flatMap_cons → qcv,getElem?_append_left → qaj,getElem?_append_right → qco,getElem?_eq_getElem → q7C,getElem?_eq_some_iff → q8w,getElem?_set_ne → qds,length_append → qb3,length_cons → q8l,length_filter_le → qcd,length_map → qcl,length_nil → q9k,length_take → qcD,map_append → qc5,mem_append → qcz,mem_cons → qbx,mem_of_getElem? → q8z,mem_range → qcn,nil_append → qae,not_mem_nil → qc2,push_toArray → qbd,range → qa4,size_toArray → qa0,takeWhile_cons_of_pos → qep,take_add_one → qbc,take_length → qcc
open List.cons renaming injEq → qd1
open Nat renaming le_refl → q5m,le_trans → q87,lt_of_lt_of_le → q8m,reduceAdd → q9F,reduceSub → qbA,zero_add → q9m,zero_le → qa8
open Option renaming getD_some → q88
open Prod renaming fst → qdE
section
namespace Go.Proofs.YtidgnkmjgioapaaGreat
open Go.RowKit Go.Co
def sqA:qcm->qcm | .seq a _=>a | c=>c
def sqB:qcm->qcm | .seq _ b=>b | c=>c
def inn:qcm->qcm | .block _ c | .loop c | .scope c=>c | c=>c
noncomputable def jG:qcm:=inn (inn (inn (sqB (Tryz.f139.body.getD .skip))))
noncomputable def wR3:qcm:=sqA (sqB (sqB jG))
noncomputable def wR4:qcm:=sqA (sqB (sqB (sqB jG)))
noncomputable def wR9:qcm:=sqA (sqB (sqB (sqB (sqB jG))))
structure I3(t:Nat->q58)(w0:q3g)(Y:Nat)(yv:q58)(gm gx:Nat->Int)(l:Array Bool)(a:Act)(w:q3g):Prop where
 hg:w0.grownBy w none
 c6:l[6]?.getD false=true->l[0]?.getD false=true/\l[1]?.getD false=true/\l[3]?.getD false=true/\l[4]?.getD false=true/\l[5]?.getD false=true
 c7:l[7]?.getD false=true->l[6]?.getD false=true
 ac:∃T8 T9 x y z u,a=⟨#[t 0,t 1,t 2,t 3,.pointer (some ⟨Y,0,none⟩),t 5,t 6,t 7,T8,T9,t 10,t 11,t 12,t 13,t 14,t 15,t 16,t 17,t 18,t 19,t 20,x,y,z,u,t 25,t 26,t 27,t 28,t 29,t 30,t 31,t 32,t 33,t 34,t 35,t 36,t 37,t 38,t 39,t 40,t 41,t 42,t 43,t 44,t 45,t 46,t 47,t 48,t 49,t 50,t 51,t 52,t 53,t 54,t 55,t 56,t 57,t 58,t 59],[]⟩/\(l[0]?.getD false=true->x=yv)/\(l[1]?.getD false=true->y=wts gm)/\(l[2]?.getD false=true->z=yv)/\(l[3]?.getD false=true->u=wts gx) /\
  (l[4]?.getD false=true->∃B1,T8=.pointer (some ⟨B1,0,none⟩)/\w0.heap.size<=B1/\w.heap[B1]?=some (qE (if l[6]?.getD false then gm else λ_=>0))/\(l[5]?.getD false=true->T9≠T8)) /\
  (l[5]?.getD false=true->∃B2,T9=.pointer (some ⟨B2,0,none⟩)/\w0.heap.size<=B2/\w.heap[B2]?=some (qE (if l[7]?.getD false then gx else λ_=>0)))
theorem piece3(lo hi:Nat)(t:Nat->q58)(w:q3g)(R:Act->q3g->Prop)(ps:List Par)(lim:Int)(Y:Nat)(yb:Option qb9)(yc:Nat)
  (h4:t 4=.pointer (some ⟨Y,0,none⟩)) (hP:qr lo hi w (.slice yb ps.length yc) ps) (hhi:hi<=w.heap.size) (h5:ps.length<=5) (d9:w.cell? ⟨Y,0,none⟩=some (.slice yb ps.length yc)) (d8:w.cell? ⟨Y,1,none⟩=some (.int .i64 lim)) (e9:Y<w.heap.size)
  (hR:∀B1 B2 w' x y z u,w.grownBy w' none->w'.heap[B1]?=some (qE (pre Par.mn ps ps.length))->w'.heap[B2]?=some (qE (pre Par.mx ps ps.length))->B1≠B2->w.heap.size<=B1->w.heap.size<=B2 ->
   R ⟨#[t 0,t 1,t 2,t 3,.pointer (some ⟨Y,0,none⟩),t 5,t 6,t 7,.pointer (some ⟨B1,0,none⟩),.pointer (some ⟨B2,0,none⟩),t 10,t 11,t 12,t 13,t 14,t 15,t 16,t 17,t 18,t 19,t 20,x,y,z,u,t 25,t 26,t 27,t 28,t 29,t 30,t 31,t 32,t 33,t 34,t 35,t 36,t 37,t 38,t 39,t 40,t 41,t 42,t 43,t 44,t 45,t 46,t 47,t 48,t 49,t 50,t 51,t 52,t 53,t 54,t 55,t 56,t 57,t 58,t 59],[]⟩ w') :
  wR3.wp Tryp.prog (yg R) ⟨#[t 0,t 1,t 2,t 3,t 4,t 5,t 6,t 7,t 8,t 9,t 10,t 11,t 12,t 13,t 14,t 15,t 16,t 17,t 18,t 19,t 20,t 21,t 22,t 23,t 24,t 25,t 26,t 27,t 28,t 29,t 30,t 31,t 32,t 33,t 34,t 35,t 36,t 37,t 38,t 39,t 40,t 41,t 42,t 43,t 44,t 45,t 46,t 47,t 48,t 49,t 50,t 51,t 52,t 53,t 54,t 55,t 56,t 57,t 58,t 59],[]⟩ w:=by
 have HR:=q1D hR;have HP:=q1D hP;have SC:=q1D (q8D d9 d8);clear hR hP d9 d8;rw[h4];clear h4;simp only[wR3,jG,Tryz.f139,q88,sqA,sqB,inn];obtain⟨gm,c8⟩:∃gm,gm=pre Par.mn ps ps.length:=⟨_,rfl⟩
 obtain⟨gx,c3⟩:∃gx,gx=pre Par.mx ps ps.length:=⟨_,rfl⟩
 rw[<- c8,<- c3] at HR;have e6:=q1D c8;have e5:=q1D c3;clear c8 c3;refine K6 (by kernel_rfl) (I3 t w Y (.agg #[.slice yb ps.length yc,.int .i64 lim]) gm gx) ?_ ?_ ?_
 ·exact⟨qc _ _,by simp,by simp,t 8,t 9,t 21,t 22,t 23,t 24,rfl,by simp,by simp,by simp,by simp,by simp,by simp⟩
 ·intro l a w1 i hl hI hi
  have b9:=(zZ hi).1;have b0:l.size=8:=hl;have gs:∀i j,i<8->(l.setIfInBounds i true)[j]?.getD false=if i=j then true else l[j]?.getD false:=λi j h=>Zp l i j (by omega);have a6:=Ym hi;obtain⟨hg,c6,c7,T8,T9,x,y,z,u,rfl,k0,k1,k2,k3,k4,k5⟩:=hI;have HG:=q1D hg;have s0:=hg.cell SC.out.1 (by simp);have s1:=hg.cell SC.out.2 (by simp);have e4:=q1D (HP.out.kept hg (by simp));have hsz:=hg.size;clear hg;have b9:i=0\/i=1\/i=2\/i=3\/i=4\/i=5\/i=6\/i=7:=by
   have:i<8:=b9;omega
  rcases b9 with rfl | rfl | rfl | rfl | rfl | rfl | rfl | rfl
  ·refine zx rfl ?_
   have KK:=q1D (q8D c6 (q8D c7 (q8D k1 (q8D k2 (q8D k3 (q8D k4 k5))))));have H6:=q1D a6;have a9:=q1D gs;clear k0 k1 k2 k3 k4 k5 c6 c7 hi a6 gs hl b0;go_wp2;obtain⟨c6,c7,k1,k2,k3,k4,k5⟩:=KK.out;have gs:=a9.out;have n6:l[6]?.getD false=false:=by
    cases h:l[6]?.getD false with
    | false=>rfl
    | true=>have:=(c6 h).1;rw[H6.out] at this;cases this
   have n7:l[7]?.getD false=false:=by
    cases h:l[7]?.getD false with
    | false=>rfl
    | true=>rw[c7 h] at n6;cases n6
   exact⟨HG.out,by simp[gs,n6],by simp[gs,n7],T8,T9,_,y,z,u,rfl,λ_=>rfl,by simpa[gs] using k1,by simpa[gs] using k2,by simpa[gs] using k3,by simpa[gs] using k4,by simpa[gs] using k5⟩
  ·have Z:=zn hi rfl
   simp[qb8] at Z;have d0:l[0]?.getD false=true:=by(repeat(first | exact Z | exact Z.1 | replace Z:=Z.2))
   obtain rfl:=k0 d0;clear Z;refine zx rfl ?_;have D0:=q1D d0;clear d0;have KK:=q1D (q8D c6 (q8D c7 (q8D k1 (q8D k2 (q8D k3 (q8D k4 k5))))));have H6:=q1D a6;have a9:=q1D gs;clear k0 k1 k2 k3 k4 k5 c6 c7 hi a6 gs hl b0;go_wp2_with (first | (go_at_call 93;refine(Qj lo hi _ ps lim _ ⟨_,rfl,e4.out⟩ (by omega) h5).mono ?_;rintro e w5 ⟨rfl,b7⟩;have b6:=q1D b7;clear b7));have gs:=a9.out;have n6:l[6]?.getD false=false:=by
    cases h:l[6]?.getD false with
    | false=>rfl
    | true=>have:=KK.out.1 h;simp[H6.out] at this
   have n7:l[7]?.getD false=false:=by
    cases h:l[7]?.getD false with
    | false=>rfl
    | true=>rw[KK.out.2.1 h] at n6;cases n6
   obtain⟨c6,c7,k1,k2,k3,k4,k5⟩:=KK.out;exact⟨HG.out.trans b6.out,by simp[gs,n6],by simp[gs,n7],T8,T9,_,_,z,u,rfl,λ_=>rfl,λ_=>by rw[e6.out],by simpa[gs] using k2,by simpa[gs] using k3,by intro h;obtain⟨B1,e,hb,hh,hn⟩:=k4 (by simpa[gs] using h);exact⟨B1,e,hb,by simpa[gs] using blk b6.out (by simp) hh,by simpa[gs] using hn⟩,by intro h;obtain⟨B2,e,hb,hh⟩:=k5 (by simpa[gs] using h);exact⟨B2,e,hb,by simpa[gs] using blk b6.out (by simp) hh⟩⟩
  ·refine zx rfl ?_
   have KK:=q1D (q8D c6 (q8D c7 (q8D k0 (q8D k1 (q8D k2 (q8D k3 (q8D k4 k5)))))));have H6:=q1D a6;have a9:=q1D gs;clear k0 k1 k2 k3 k4 k5 c6 c7 hi a6 gs hl b0;go_wp2;have gs:=a9.out;obtain⟨c6,c7,k0,k1,k2,k3,k4,k5⟩:=KK.out;exact⟨HG.out,by simpa[gs] using c6,by simpa[gs] using c7,T8,T9,x,y,_,u,rfl,by simpa[gs] using k0,by simpa[gs] using k1,λ_=>rfl,by simpa[gs] using k3,by simpa[gs] using k4,by simpa[gs] using k5⟩
  ·have Z:=zn hi rfl
   simp[qb8] at Z;have d2:l[2]?.getD false=true:=by(repeat(first | exact Z | exact Z.1 | replace Z:=Z.2))
   obtain rfl:=k2 d2;clear Z;refine zx rfl ?_;have D2:=q1D d2;clear d2;have KK:=q1D (q8D c6 (q8D c7 (q8D k0 (q8D k1 (q8D k3 (q8D k4 k5))))));have H6:=q1D a6;have a9:=q1D gs;clear k0 k1 k2 k3 k4 k5 c6 c7 hi a6 gs hl b0;go_wp2_with (first | (go_at_call 92;refine(xT lo hi _ ps lim _ ⟨_,rfl,e4.out⟩ (by omega) h5).mono ?_;rintro e w5 ⟨rfl,b7⟩;have b6:=q1D b7;clear b7));have gs:=a9.out;have n6:l[6]?.getD false=false:=by
    cases h:l[6]?.getD false with
    | false=>rfl
    | true=>have:=KK.out.1 h;simp[H6.out] at this
   have n7:l[7]?.getD false=false:=by
    cases h:l[7]?.getD false with
    | false=>rfl
    | true=>rw[KK.out.2.1 h] at n6;cases n6
   obtain⟨c6,c7,k0,k1,k3,k4,k5⟩:=KK.out;exact⟨HG.out.trans b6.out,by simp[gs,n6],by simp[gs,n7],T8,T9,x,y,_,_,rfl,by simpa[gs] using k0,by simpa[gs] using k1,λ_=>rfl,λ_=>by rw[e5.out],by intro h;obtain⟨B1,e,hb,hh,hn⟩:=k4 (by simpa[gs] using h);exact⟨B1,e,hb,by simpa[gs] using blk b6.out (by simp) hh,by simpa[gs] using hn⟩,by intro h;obtain⟨B2,e,hb,hh⟩:=k5 (by simpa[gs] using h);exact⟨B2,e,hb,by simpa[gs] using blk b6.out (by simp) hh⟩⟩
  ·refine zx rfl ?_
   have KK:=q1D (q8D c6 (q8D c7 (q8D k0 (q8D k1 (q8D k2 (q8D k3 (q8D k4 k5)))))));have H6:=q1D a6;have a9:=q1D gs;clear k0 k1 k2 k3 k4 k5 c6 c7 hi a6 gs hl b0;go_wp2;have gs:=a9.out;have n6:l[6]?.getD false=false:=by
    cases h:l[6]?.getD false with
    | false=>rfl
    | true=>have:=KK.out.1 h;simp[H6.out] at this
   have n7:l[7]?.getD false=false:=by
    cases h:l[7]?.getD false with
    | false=>rfl
    | true=>rw[KK.out.2.1 h] at n6;cases n6
   obtain⟨c6,c7,k0,k1,k2,k3,k4,k5⟩:=KK.out;refine⟨HG.out.trans (q34 _ _ none),by simp[gs,n6],by simp[gs,n7],_,T9,x,y,z,u,rfl,by simpa[gs] using k0,by simpa[gs] using k1,by simpa[gs] using k2,by simpa[gs] using k3,λ_=>⟨w1.heap.size,rfl,hsz,?_,λh=>?_⟩,by intro h;obtain⟨B2,e,hb,hh⟩:=k5 (by simpa[gs] using h);exact⟨B2,e,hb,by simpa[gs] using qp hh⟩⟩
   ·rw[show(l.setIfInBounds 4 true)[6]?.getD false=false by simp[gs,n6]]
    exact q7j w1 (qE λ_=>0)
   ·obtain⟨B2,e2,_,hh⟩:=k5 (by simpa[gs] using h)
    have:=(q45.1 hh).1;rw[e2];intro e;simp at e;try omega
  ·refine zx rfl ?_
   have KK:=q1D (q8D c6 (q8D c7 (q8D k0 (q8D k1 (q8D k2 (q8D k3 (q8D k4 k5)))))));have H6:=q1D a6;have a9:=q1D gs;clear k0 k1 k2 k3 k4 k5 c6 c7 hi a6 gs hl b0;go_wp2;have gs:=a9.out;have n6:l[6]?.getD false=false:=by
    cases h:l[6]?.getD false with
    | false=>rfl
    | true=>have:=KK.out.1 h;simp[H6.out] at this
   have n7:l[7]?.getD false=false:=by
    cases h:l[7]?.getD false with
    | false=>rfl
    | true=>rw[KK.out.2.1 h] at n6;cases n6
   obtain⟨c6,c7,k0,k1,k2,k3,k4,k5⟩:=KK.out;refine⟨HG.out.trans (q34 _ _ none),by simp[gs,n6],by simp[gs,n7],T8,_,x,y,z,u,rfl,by simpa[gs] using k0,by simpa[gs] using k1,by simpa[gs] using k2,by simpa[gs] using k3,λh=>?_,λ_=>⟨w1.heap.size,rfl,hsz,?_⟩⟩
   ·obtain⟨B1,e,hb,hh,hn⟩:=k4 (by simpa[gs] using h)
    refine⟨B1,e,hb,by simpa[gs] using qp hh,λ_=>?_⟩;have:=(q45.1 hh).1;rw[e];intro e;simp at e;try omega
   ·rw[show(l.setIfInBounds 5 true)[7]?.getD false=false by simp[gs,n7]]
    exact q7j w1 (qE λ_=>0)
  ·have Z:=zn hi rfl
   simp[qb8] at Z;have d0:l[0]?.getD false=true:=by(repeat(first | exact Z | exact Z.1 | replace Z:=Z.2))
   have d1:l[1]?.getD false=true:=by(repeat(first | exact Z | exact Z.1 | replace Z:=Z.2))
   have d3:l[3]?.getD false=true:=by(repeat(first | exact Z | exact Z.1 | replace Z:=Z.2))
   have d4:l[4]?.getD false=true:=by(repeat(first | exact Z | exact Z.1 | replace Z:=Z.2))
   have d5:l[5]?.getD false=true:=by(repeat(first | exact Z | exact Z.1 | replace Z:=Z.2))
   have D:=q1D (q8D d0 (q8D d1 (q8D d3 (q8D d4 d5))));obtain⟨B1,rfl,hb1,a8,hne⟩:=k4 d4;obtain⟨B2,rfl,b8,a7⟩:=k5 d5;obtain rfl:=k1 d1;obtain rfl:=k3 d3;obtain rfl:=k0 d0;have hne:B2≠B1:=λe=>hne d5 (by rw[e]);have n7:l[7]?.getD false=false:=by
    cases h:l[7]?.getD false with
    | false=>rfl
    | true=>rw[c7 h] at a6;cases a6
   rw[a6] at a8;rw[n7] at a7;have N7:=q1D n7;clear n7;simp only[qa5,if_true,if_false,reduceIte] at a8 a7;have d7:=q1D a8;have c9:=q1D a7;have a0:=ql a8 (show 0<5 by omega);have a1:=ql a8 (show 1<5 by omega);have a2:=ql a8 (show 2<5 by omega);have a3:=ql a8 (show 3<5 by omega);have a4:=ql a8 (show 4<5 by omega);have fz:=jm a8;have e8:=(q45.1 a8).1;refine zx rfl ?_;have H6:=q1D a6;have K2:=q1D k2;have a9:=q1D gs;clear a8 a7 Z d0 d1 d3 d4 d5 k0 k1 k2 k3 k4 k5 c6 c7 hi a6 gs hl b0;unfold wts;go_wp2;have gs:=a9.out;have hW:(((((w1.setCell ⟨B1,0,none⟩ (.int .i64 (gm 0))).setCell ⟨B1,1,none⟩ (.int .i64 (gm 1))).setCell ⟨B1,2,none⟩ (.int .i64 (gm 2))).setCell ⟨B1,3,none⟩ (.int .i64 (gm 3))).setCell ⟨B1,4,none⟩ (.int .i64 (gm 4))).heap[B1]?=some (qE gm):=by
    rw[qh (qh (qh (qh (qh d7.out))))];rfl
   have hG:w1.grownBy (((((w1.setCell ⟨B1,0,none⟩ (.int .i64 (gm 0))).setCell ⟨B1,1,none⟩ (.int .i64 (gm 1))).setCell ⟨B1,2,none⟩ (.int .i64 (gm 2))).setCell ⟨B1,3,none⟩ (.int .i64 (gm 3))).setCell ⟨B1,4,none⟩ (.int .i64 (gm 4))) (some B1) :=
    ((((qg _ _ _ _).trans (qg _ _ _ _)).trans (qg _ _ _ _)).trans (qg _ _ _ _)).trans (qg _ _ _ _)
   refine⟨HG.out.andThen (row':=some B1) hG (by rintro j e;cases e;exact .inl (by omega)),?_,?_,_,_,_,_,_,_,rfl,λ_=>rfl,λ_=>rfl,?_,λ_=>rfl,λ_=>⟨B1,rfl,hb1,?_,λ_=>by intro e;simp at e;try omega⟩,λ_=>⟨B2,rfl,b8,?_⟩⟩
   ·intro _
    obtain⟨d0,d1,d3,d4,d5⟩:=D.out;simp[gs,d0,d1,d3,d4,d5]
   ·intro h
    rw[gs 6 7 (by omega)] at h;simp[N7.out] at h
   ·simpa[gs] using K2.out
   ·rw[show(l.setIfInBounds 6 true)[6]?.getD false=true by simp[gs]]
    exact hW
   ·rw[show(l.setIfInBounds 6 true)[7]?.getD false=false by simp[gs,N7.out]]
    exact blk hG (by simp;omega) c9.out
  ·have Z:=zn hi rfl
   simp[qb8] at Z;have d0:l[0]?.getD false=true:=by(repeat(first | exact Z | exact Z.1 | replace Z:=Z.2))
   have d1:l[1]?.getD false=true:=by(repeat(first | exact Z | exact Z.1 | replace Z:=Z.2))
   have d3:l[3]?.getD false=true:=by(repeat(first | exact Z | exact Z.1 | replace Z:=Z.2))
   have d4:l[4]?.getD false=true:=by(repeat(first | exact Z | exact Z.1 | replace Z:=Z.2))
   have d5:l[5]?.getD false=true:=by(repeat(first | exact Z | exact Z.1 | replace Z:=Z.2))
   have D:=q1D (q8D d0 (q8D d1 (q8D d3 (q8D d4 d5))));have d6:l[6]?.getD false=true:=by(repeat(first | exact Z | exact Z.1 | replace Z:=Z.2))
   have D6:=q1D d6;obtain⟨B1,rfl,hb1,a8,hne⟩:=k4 d4;obtain⟨B2,rfl,b8,a7⟩:=k5 d5;obtain rfl:=k1 d1;obtain rfl:=k3 d3;obtain rfl:=k0 d0;have hne:B2≠B1:=λe=>hne d5 (by rw[e]);rw[d6] at a8;rw[a6] at a7;clear d6;simp only[qa5,if_true,if_false,reduceIte] at a8 a7;have d7:=q1D a8;have c9:=q1D a7;have a0:=ql a7 (show 0<5 by omega);have a1:=ql a7 (show 1<5 by omega);have a2:=ql a7 (show 2<5 by omega);have a3:=ql a7 (show 3<5 by omega);have a4:=ql a7 (show 4<5 by omega);have fz:=jm a7;have e7:=(q45.1 a7).1;refine zx rfl ?_;have H6:=q1D a6;have K2:=q1D k2;have a9:=q1D gs;clear a8 a7 Z d0 d1 d3 d4 d5 k0 k1 k2 k3 k4 k5 c6 c7 hi a6 gs hl b0;unfold wts;go_wp2;have gs:=a9.out;have hW:(((((w1.setCell ⟨B2,0,none⟩ (.int .i64 (gx 0))).setCell ⟨B2,1,none⟩ (.int .i64 (gx 1))).setCell ⟨B2,2,none⟩ (.int .i64 (gx 2))).setCell ⟨B2,3,none⟩ (.int .i64 (gx 3))).setCell ⟨B2,4,none⟩ (.int .i64 (gx 4))).heap[B2]?=some (qE gx):=by
    rw[qh (qh (qh (qh (qh c9.out))))];rfl
   have hG:w1.grownBy (((((w1.setCell ⟨B2,0,none⟩ (.int .i64 (gx 0))).setCell ⟨B2,1,none⟩ (.int .i64 (gx 1))).setCell ⟨B2,2,none⟩ (.int .i64 (gx 2))).setCell ⟨B2,3,none⟩ (.int .i64 (gx 3))).setCell ⟨B2,4,none⟩ (.int .i64 (gx 4))) (some B2) :=
    ((((qg _ _ _ _).trans (qg _ _ _ _)).trans (qg _ _ _ _)).trans (qg _ _ _ _)).trans (qg _ _ _ _)
   refine⟨HG.out.andThen (row':=some B2) hG (by rintro j e;cases e;exact .inl (by omega)),?_,?_,_,_,_,_,_,_,rfl,λ_=>rfl,λ_=>rfl,?_,λ_=>rfl,λ_=>⟨B1,rfl,hb1,?_,λ_=>by intro e;simp at e;try omega⟩,λ_=>⟨B2,rfl,b8,?_⟩⟩
   ·intro _
    obtain⟨d0,d1,d3,d4,d5⟩:=D.out;simp[gs,d0,d1,d3,d4,d5]
   ·intro _
    simp[gs,D6.out]
   ·simpa[gs] using K2.out
   ·rw[show(l.setIfInBounds 7 true)[6]?.getD false=true by simp[gs,D6.out]]
    exact blk hG (by simp;omega) d7.out
   ·rw[show(l.setIfInBounds 7 true)[7]?.getD false=true by simp[gs]]
    exact hW
 ·intro l a w1 hl hI hr
  obtain⟨hg,c6,c7,T8,T9,x,y,z,u,rfl,k0,k1,k2,k3,k4,k5⟩:=hI;have q0:=zQ hr hl (i:=0) rfl (by simp[qb8]);have q1:=zQ hr hl (i:=1) rfl (by simp[qb8,q0]);have q2:=zQ hr hl (i:=2) rfl (by simp[qb8]);have q3:=zQ hr hl (i:=3) rfl (by simp[qb8,q1,q2]);have q4:=zQ hr hl (i:=4) rfl (by simp[qb8]);have q5:=zQ hr hl (i:=5) rfl (by simp[qb8]);have q6:=zQ hr hl (i:=6) rfl (by simp[qb8,q0,q1,q2,q3,q4,q5]);have q7:=zQ hr hl (i:=7) rfl (by simp[qb8,q0,q1,q2,q3,q4,q5,q6]);obtain⟨B1,rfl,hb1,a8,hne⟩:=k4 q4;obtain⟨B2,rfl,b8,a7⟩:=k5 q5;rw[q6] at a8;rw[q7] at a7;exact HR.out B1 B2 w1 x y z u hg (by simpa using a8) (by simpa using a7) (λe=>hne q5 (by rw[e])) hb1 b8
end Go.Proofs.YtidgnkmjgioapaaGreat
end
section
namespace Go.Proofs.YtidgnkmjgioapaaGreat
open Go Go.RowKit Go.Co
noncomputable def cB0:qcm:=inn (inn (sqB (sqA (sqB (sqB (Tryz.f137.body.getD .skip))))))
noncomputable def cB1:qcm:=inn (sqA (sqB (sqB cB0)))
noncomputable def cL2:qcm:=sqB (sqA (sqB (sqB (sqB cB1))))
noncomputable def cB3:qcm:=inn (sqA (sqB (sqB (inn (inn cL2)))))
noncomputable def cIn:qcm:=sqB (sqB cB3)
def Y7(g:Nat->Int)(n:Nat)(v:Int):Nat->Int:=λd=>if d=n then v else g d
def Zf(g:Nat->Int):List q58:=[.int .i64 (g 0),.int .i64 (g 1),.int .i64 (g 2),.int .i64 (g 3),.int .i64 (g 4)]
def zW(L:List (Nat->Int)):List q58:=L.flatMap Zf
def kO(g:Nat->Int)(n:Nat)(mn:Int)(k:Nat):List (Nat->Int):=(qa4 k).map λm:Nat=>Y7 g n (mn+(m:Int))
theorem q52(g:Nat->Int)(n:Nat)(mn:Int)(k:Nat):kO g n mn (k+1)=kO g n mn k++[Y7 g n (mn+k)]:=by
 simp[kO,List.range_succ]
theorem q7e(g:Nat->Int)(n:Nat)(mn:Int)(k:Nat):(kO g n mn k).length=k:=by simp[kO]
theorem q59(L:List (Nat->Int))(g:Nat->Int):zW (L++[g])=zW L++Zf g:=by simp[zW]
theorem q9j(g:Nat->Int):zC (Zf g):=by
 intro v hv;simp only[Zf,qbx,qc2,or_false] at hv;rcases hv with rfl | rfl | rfl | rfl | rfl<;>exact⟨_,_,rfl⟩
theorem Tryp.und152:Tryp.prog.underlying 152=some (.slice 101):=by rw[Tryp.und];exact Tryz.underlying152
theorem Tryp.info101p:(Tryp.prog.info? 101).map (λi=>(i.zero,i.size,i.bytes))=some (some (.agg #[.int .i64 0,.int .i64 0,.int .i64 0,.int .i64 0,.int .i64 0]),5,40):=by kernel_rfl
theorem q74(g:Nat->Int)(n:Nat)(a b:Int):(λd=>if d=n then b else Y7 g n a d)=Y7 g n b:=by
 funext d
 unfold Y7;split<;>rfl
def gAt(g:Nat->Int)(n:Nat)(mn:Int)(m:Nat):Nat->Int:=if m=0 then g else Y7 g n (mn+(m - 1:Int))
theorem gAt_set(g:Nat->Int)(n:Nat)(mn:Int)(m:Nat):(λd=>if d=n then mn+(m:Int) else gAt g n mn m d)=Y7 g n (mn+m):=by
 unfold gAt;split
 ·rfl
 ·exact q74 _ _ _ _
theorem qa6(g:Nat->Int)(n:Nat)(mn:Int)(m:Nat):gAt g n mn (m+1)=Y7 g n (mn+m):=by
 unfold gAt;simp
theorem qa2(t:Nat->q58)(wm w:q3g)(R:Act->q3g->Prop)(n OB Wb k:Nat)(mn mx:Int)(g:Nat->Int)(L:List (Nat->Int))(nv:q58)
  (h7:t 7=.int .i64 n) (hn:n<5) (h8:t 8=nv) (h9:t 9=.pointer (some ⟨OB,0,none⟩)) (hO:wm.heap[OB]?=some (.cells #[.int .i64 mn,.int .i64 mx] 26 (0,0))) (c3:t 11=.pointer (some ⟨Wb,0,none⟩)) (hW:w.heap[Wb]?=some (qE g)) (l5:wm.heap.size<=Wb)
  (b9:t 39=.int .i64 k) (b8:t 40=.int .i64 0) (hg:wm.grownBy w none) (hown:w.ownsRow wm.heap.size 101 5 nv L.length (zW L)) (hI:∀b,nv.ownBlock=some b->jl w b/\b≠Wb) (m9:0<=mn/\mn<=1000) (hk:k<=2000) (hL:L.length+k<=900000)
  (hR:∀(x8 k5 k0 g9 g8 g7 g6 g5 e9 e8 e7 e6 e5 e4 d9 d8:q58) w',wm.grownBy w' none->w'.ownsRow wm.heap.size 101 5 x8 (L.length+k) (zW (L++kO g n mn k))->(∀b,x8.ownBlock=some b->jl w' b) ->
   R ⟨#[t 0,t 1,t 2,t 3,t 4,t 5,t 6,.int .i64 n,x8,.pointer (some ⟨OB,0,none⟩),t 10,.pointer (some ⟨Wb,0,none⟩),k5,t 13,t 14,t 15,t 16,t 17,t 18,t 19,t 20,t 21,t 22,t 23,t 24,t 25,t 26,t 27,t 28,t 29,t 30,t 31,t 32,t 33,t 34,t 35,t 36,t 37,t 38,.int .i64 k,k0,g9,g8,g7,g6,g5,e9,e8,e7,e6,e5,e4,d9,d8,t 54,t 55,t 56,t 57],[]⟩ w') :
  (inn cIn).wp Tryp.prog (qe5 4 (yg R)) ⟨#[t 0,t 1,t 2,t 3,t 4,t 5,t 6,t 7,t 8,t 9,t 10,t 11,t 12,t 13,t 14,t 15,t 16,t 17,t 18,t 19,t 20,t 21,t 22,t 23,t 24,t 25,t 26,t 27,t 28,t 29,t 30,t 31,t 32,t 33,t 34,t 35,t 36,t 37,t 38,t 39,t 40,t 41,t 42,t 43,t 44,t 45,t 46,t 47,t 48,t 49,t 50,t 51,t 52,t 53,t 54,t 55,t 56,t 57],[]⟩ w:=by
 obtain⟨i0,l4,k8,k7,k6⟩:=qch Tryp.info101p;have HR:=q1D hR;have HO:=q1D hO;have HW:=q1D hW;have HG:=q1D hg;have HN:=q1D hown;have HI:=q1D hI;have n3:OB<wm.heap.size:=(q45.1 hO).1;clear hR hO hW hg hown hI;rw[h7,h8,h9,c3,b9,b8];clear h7 h8 h9 c3 b9 b8;simp only[cIn,cB3,cL2,cB1,cB0,Tryz.f137,q88,sqA,sqB,inn];go_wp2;go_loopw [8,40] (λov iv wr=>∃m:Nat,iv=.int .i64 m/\m<=k/\wm.grownBy wr none/\wr.heap[Wb]?=some (qE (gAt g n mn m))/\wr.ownsRow wm.heap.size 101 5 ov (L.length+m) (zW (L++kO g n mn m))/\∀b,ov.ownBlock=some b->jl wr b/\b≠Wb) (λ_ iv _=>(k - qb2 iv).toNat)
 case atStart=>exact⟨0,rfl,by omega,HG.out,HW.out,by simpa[kO] using HN.out,HI.out⟩
 case round =>
  obtain⟨m,rfl,hm,hG,hB,hO,hN⟩:=hrel;obtain⟨oa,om,oc,rfl⟩:=zV hO;have d6:=q1D hG;have l9:=q1D hB;have d5:=q1D hO;have b0:=q1D hN;have o0:=hG.cell (qa HO.out (o:=0) rfl) (by simp);have n2:Wb<wr.heap.size:=(q45.1 hB).1;by_cases hlt:m<k
  ·have d1:=ql hB hn
   have f1:=jm hB;have m5:(m:Int)<(k:Int):=by omega
   have m7:(n:Int)<5:=by omega
   clear hG hB hO hN;have m4:IntKind.i64.wrap (mn+(m:Int))=mn+m:=qa7 _ (by omega);go_upto_region 14 with(fail)
   obtain⟨w1,Z⟩:∃w1,w1=wr.setCell ⟨Wb,n,none⟩ (.int .i64 (mn+m)):=⟨_,rfl⟩
   have q1:w1.heap[Wb]?=some (qE (Y7 g n (mn+m))):=by
    rw[Z,<- gAt_set];exact xO l9.out hn
   have g1:wr.grownBy w1 (some Wb):=by rw[Z];exact qg _ _ _ _
   have q2:wm.grownBy w1 none:=d6.out.andThen g1 (by rintro j e;cases e;exact .inl l5);have q3:w1.ownsRow wm.heap.size 101 5 (.slice oa om oc) (L.length+m) (zW (L++kO g n mn m)):=d5.out.kept g1 (.inr λe=>by
    have:=(b0.out _ e).2;exact this rfl)
   have q4:∀b,(qbp oa om oc).ownBlock=some b->jl w1 b/\b≠Wb:=λb hb=>by
    obtain⟨⟨cs,e,f,h1,h2⟩,h3⟩:=b0.out b hb;exact⟨⟨cs,e,f,blk g1 (by intro e;cases e;exact h3 rfl) h1,h2⟩,h3⟩
   have k9:w1.heap.size=wr.heap.size:=by rw[Z];simp
   have r0:=ql q1 (show 0<5 by omega);have r1:=ql q1 (show 1<5 by omega);have r2:=ql q1 (show 2<5 by omega);have r3:=ql q1 (show 3<5 by omega);have r4:=ql q1 (show 4<5 by omega);rw[<- Z];have c9:=q1D q1;have l6:=q1D q2;have c8:=q1D q3;have a9:=q1D q4;have m6:Wb<w1.heap.size:=by omega
   have m8:wm.heap.size<=w1.heap.size:=q2.size;clear q1 q2 q3 q4 g1 Z d1 f1 o0 k9;generalize b6:Y7 g n (mn+(m:Int))=gg at r0 r1 r2 r3 r4 c9;go_wp2_with (first
    | (at_builtin;go_must (refine QE (by rfl) _ _ _ (by rfl) wm.heap.size 101 i0 _ 5 40 Tryp.und152 l4 k8 k7 k6 rfl (by omega) (.slice oa om oc) (L.length+m) (zW (L++kO g n mn m)) (by rfl) (by exact c8.out.alloc _) ⟨w1.heap.size,0,none⟩ 1 1 (Zf gg) (by rfl) (by rfl) (qbg (cs:=(Zf gg).toArray) (t:=101) (fr:=(0,0)) (q7j w1 _)) (by simp[Zf,qbD]) (by omega) (by unfold maxLen;omega) (by omega) (by simp;omega) (w1.heap.size+1) (by simp) (λb hb=>by obtain⟨⟨cs,e,f,h1,h2⟩,_⟩:=a9.out b hb;exact⟨cs,e,f,qp h1,h2⟩) (q9j gg) (by intro v hv;simp[Value.cells] at hv;exact⟨_,_,hv⟩) ?_);intro gi cap w5 a6 a7 b7 hgl a8;have d7:=q1D a7;have l7:=q1D a6;have m3:=q1D b7;have l8:=q1D a8;clear a7 a6 b7 a8))
   refine⟨⟨m+1,by simp,by omega,?_,?_,?_,?_⟩,by simp[qb2];omega⟩
   ·exact(l6.out.trans (q34 _ _ none)).andThen d7.out λj e=>.inl (c8.out.lt j e).1
   ·rw[qa6,b6]
    exact blk d7.out (λe=>(a9.out Wb e.symm).2 rfl) (qp c9.out)
   ·rw[q52,<- qc1,q59,b6]
    exact l7.out
   ·intro b hb
    have hb':gi=b:=by simpa[qak] using hb
    subst hb';refine⟨l8.out,?_⟩;rcases m3.out with e | e
    ·exact(a9.out gi e).2
    ·omega
  ·obtain rfl:m=k:=by omega
   clear hG hB hO hN;go_wp2;exact HR.out _ _ _ _ _ _ _ _ _ _ _ _ _ _ _ _ wr d6.out d5.out λb hb=>(b0.out b hb).1
theorem q6d(x:Array q58)(h:x.size=58):∃y0 y1 y2 y3 y4 y5 y6 y7 y8 y9 y10 y11 y12 y13 y14 y15 y16 y17 y18 y19 y20 y21 y22 y23 y24 y25 y26 y27 y28 y29 y30 y31 y32 y33 y34 y35 y36 y37 y38 y39 y40 y41 y42 y43 y44 y45 y46 y47 y48 y49 y50 y51 y52 y53 y54 y55 y56 y57,x=#[y0,y1,y2,y3,y4,y5,y6,y7,y8,y9,y10,y11,y12,y13,y14,y15,y16,y17,y18,y19,y20,y21,y22,y23,y24,y25,y26,y27,y28,y29,y30,y31,y32,y33,y34,y35,y36,y37,y38,y39,y40,y41,y42,y43,y44,y45,y46,y47,y48,y49,y50,y51,y52,y53,y54,y55,y56,y57]:=by
 have e:=Ql x;rw[h] at e;exact⟨_,_,_,_,_,_,_,_,_,_,_,_,_,_,_,_,_,_,_,_,_,_,_,_,_,_,_,_,_,_,_,_,_,_,_,_,_,_,_,_,_,_,_,_,_,_,_,_,_,_,_,_,_,_,_,_,_,_,e.trans rfl⟩
theorem arr58(z:Array q58)(h:z.size=58):z=#[z[0]?.getD q5s,z[1]?.getD q5s,z[2]?.getD q5s,z[3]?.getD q5s,z[4]?.getD q5s,z[5]?.getD q5s,z[6]?.getD q5s,z[7]?.getD q5s,z[8]?.getD q5s,z[9]?.getD q5s,z[10]?.getD q5s,z[11]?.getD q5s,z[12]?.getD q5s,z[13]?.getD q5s,z[14]?.getD q5s,z[15]?.getD q5s,z[16]?.getD q5s,z[17]?.getD q5s,z[18]?.getD q5s,z[19]?.getD q5s,z[20]?.getD q5s,z[21]?.getD q5s,z[22]?.getD q5s,z[23]?.getD q5s,z[24]?.getD q5s,z[25]?.getD q5s,z[26]?.getD q5s,z[27]?.getD q5s,z[28]?.getD q5s,z[29]?.getD q5s,z[30]?.getD q5s,z[31]?.getD q5s,z[32]?.getD q5s,z[33]?.getD q5s,z[34]?.getD q5s,z[35]?.getD q5s,z[36]?.getD q5s,z[37]?.getD q5s,z[38]?.getD q5s,z[39]?.getD q5s,z[40]?.getD q5s,z[41]?.getD q5s,z[42]?.getD q5s,z[43]?.getD q5s,z[44]?.getD q5s,z[45]?.getD q5s,z[46]?.getD q5s,z[47]?.getD q5s,z[48]?.getD q5s,z[49]?.getD q5s,z[50]?.getD q5s,z[51]?.getD q5s,z[52]?.getD q5s,z[53]?.getD q5s,z[54]?.getD q5s,z[55]?.getD q5s,z[56]?.getD q5s,z[57]?.getD q5s]:=by
 obtain⟨y0,y1,y2,y3,y4,y5,y6,y7,y8,y9,y10,y11,y12,y13,y14,y15,y16,y17,y18,y19,y20,y21,y22,y23,y24,y25,y26,y27,y28,y29,y30,y31,y32,y33,y34,y35,y36,y37,y38,y39,y40,y41,y42,y43,y44,y45,y46,y47,y48,y49,y50,y51,y52,y53,y54,y55,y56,y57,rfl⟩:=q6d z h;rfl
def j4:List Nat:=[8,12,40,41,42,43,44,45,46,47,48,49,50,51,52,53]
theorem qa1(z:Array q58)(hz:z.size=58)(wm w:q3g)(R:Act->q3g->Prop)(n OB Wb k:Nat)(mn mx:Int)(g:Nat->Int)(L:List (Nat->Int))(nv:q58)
  (h7:z[7]?=some (.int .i64 n)) (hn:n<5) (h8:z[8]?=some nv) (h9:z[9]?=some (.pointer (some ⟨OB,0,none⟩))) (hO:wm.heap[OB]?=some (.cells #[.int .i64 mn,.int .i64 mx] 26 (0,0))) (b7:z[11]?=some (.pointer (some ⟨Wb,0,none⟩))) (hW:w.heap[Wb]?=some (qE g)) (a9:wm.heap.size<=Wb)
  (b6:z[39]?=some (.int .i64 k)) (b0:z[40]?=some (.int .i64 0)) (hg:wm.grownBy w none) (hown:w.ownsRow wm.heap.size 101 5 nv L.length (zW L)) (hI:∀b,nv.ownBlock=some b->jl w b/\b≠Wb) (a8:0<=mn/\mn<=1000) (hk:k<=2000) (hL:L.length+k<=900000)
  (hR:∀(z':Array q58) (x8:q58) w',z'.size=58->z'[8]?=some x8->(∀j,j<58->j∉j4->z'[j]?=z[j]?)->wm.grownBy w' none->w'.ownsRow wm.heap.size 101 5 x8 (L.length+k) (zW (L++kO g n mn k))->(∀b,x8.ownBlock=some b->jl w' b)->R ⟨z',[]⟩ w') :
  (inn cIn).wp Tryp.prog (qe5 4 (yg R)) ⟨z,[]⟩ w:=by
 generalize ht:(λk:Nat=>z[k]?.getD q5s)=t;have Z:z=#[t 0,t 1,t 2,t 3,t 4,t 5,t 6,t 7,t 8,t 9,t 10,t 11,t 12,t 13,t 14,t 15,t 16,t 17,t 18,t 19,t 20,t 21,t 22,t 23,t 24,t 25,t 26,t 27,t 28,t 29,t 30,t 31,t 32,t 33,t 34,t 35,t 36,t 37,t 38,t 39,t 40,t 41,t 42,t 43,t 44,t 45,t 46,t 47,t 48,t 49,t 50,t 51,t 52,t 53,t 54,t 55,t 56,t 57]:=by subst ht;exact arr58 z hz
 have e7:t 7=.int .i64 n:=by subst ht;show z[7]?.getD q5s=_;rw[h7];rfl
 have e8:t 8=nv:=by subst ht;show z[8]?.getD q5s=_;rw[h8];rfl
 have e9:t 9=.pointer (some ⟨OB,0,none⟩):=by subst ht;show z[9]?.getD q5s=_;rw[h9];rfl
 have a7:t 11=.pointer (some ⟨Wb,0,none⟩):=by subst ht;show z[11]?.getD q5s=_;rw[b7];rfl
 have a6:t 39=.int .i64 k:=by subst ht;show z[39]?.getD q5s=_;rw[b6];rfl
 have b8:t 40=.int .i64 0:=by subst ht;show z[40]?.getD q5s=_;rw[b0];rfl
 rw[Z];refine qa2 t wm w R n OB Wb k mn mx g L nv e7 hn e8 e9 hO a7 hW a9 a6 b8 hg hown hI a8 hk hL ?_;intro x8 g7 g6 g5 e6 e5 e4 d9 d8 d7 d6 d5 c9 c8 c3 b9 w' a1 a2 a3;refine hR _ x8 w' rfl rfl (λj hj hn=>?_) a1 a2 a3;rw[Z,<- e7,<- e9,<- a7,<- a6];unfold j4 at hn;obtain rfl | rfl | rfl | rfl | rfl | rfl | rfl | rfl | rfl | rfl | rfl | rfl | rfl | rfl | rfl | rfl | rfl | rfl | rfl | rfl | rfl | rfl | rfl | rfl | rfl | rfl | rfl | rfl | rfl | rfl | rfl | rfl | rfl | rfl | rfl | rfl | rfl | rfl | rfl | rfl | rfl | rfl | rfl | rfl | rfl | rfl | rfl | rfl | rfl | rfl | rfl | rfl | rfl | rfl | rfl | rfl | rfl | rfl:j=0\/j=1\/j=2\/j=3\/j=4\/j=5\/j=6\/j=7\/j=8\/j=9\/j=10\/j=11\/j=12\/j=13\/j=14\/j=15\/j=16\/j=17\/j=18\/j=19\/j=20\/j=21\/j=22\/j=23\/j=24\/j=25\/j=26\/j=27\/j=28\/j=29\/j=30\/j=31\/j=32\/j=33\/j=34\/j=35\/j=36\/j=37\/j=38\/j=39\/j=40\/j=41\/j=42\/j=43\/j=44\/j=45\/j=46\/j=47\/j=48\/j=49\/j=50\/j=51\/j=52\/j=53\/j=54\/j=55\/j=56\/j=57:=by omega
 all_goals first | rfl | (exact absurd (by simp) hn)
def yU(L:List (Nat->Int))(n:Nat)(mn:Int)(k:Nat):List (Nat->Int):=L.flatMap λg=>kO g n mn k
theorem vp(L:List (Nat->Int))(n:Nat)(mn:Int)(k:Nat):(yU L n mn k).length=L.length*k:=by
 unfold yU;induction L with
 | nil=>simp
 | cons g L ih=>simp only[qcv,qb3,q7e,ih,q8l];rw[Nat.add_mul];omega
theorem q4h(L:List (Nat->Int))(n:Nat)(mn:Int)(k:Nat)(i:Nat)(g:Nat->Int)(h:L[i]?=some g):yU (L.take (i+1)) n mn k=yU (L.take i) n mn k++kO g n mn k:=by
 rw[qbc,h];simp[yU]
theorem q0f(L:List (Nat->Int))(i:Nat)(g:Nat->Int)(h:L[i]?=some g)(d:Nat)(hd:d<5):(zW L)[i*5+d]?=some (.int .i64 (g d)):=by
 unfold zW;induction L generalizing i with
 | nil=>simp at h
 | cons g0 L ih =>
  cases i with
  | zero =>
   simp at h;subst h;rw[qcv,qaj (by simp[Zf];omega)];obtain rfl | rfl | rfl | rfl | rfl:d=0\/d=1\/d=2\/d=3\/d=4:=by omega
   all_goals simp[Zf]
  | succ i =>
   simp at h;rw[qcv,qco (by simp[Zf];omega)];rw[show(i+1)*5+d - (Zf g0).length=i*5+d from by simp[Zf];omega];exact ih i h
theorem jY{R:Act->q3g->Prop}{Q:Exit->Act->q3g->Prop}{id:Nat}(h:∀a w,R a w->Q .normal a w):∀e a w,qe5 id (yg R) e a w->qe5 id Q e a w:=by
 intro e a w hh;cases e with
 | normal=>exact h a w hh
 | exit i =>
  unfold qe5 at hh ⊢;by_cases hi:i=id
  ·simp only[hi,if_true] at hh ⊢
   exact h a w hh
  ·simp only[hi,if_false] at hh
   exact hh.elim
 | goto l=>exact hh.elim
 | ret=>exact hh.elim
 | panic c=>exact hh.elim
 | outgrown=>exact hh.elim
theorem xg{c c':qcm}{P:q8b}{Q:Exit->Act->q3g->Prop}{a:Act}{w:q3g}(e:c=c')(h:c'.wp P Q a w):c.wp P Q a w:=e ▸ h
theorem mid_at(z:Array q58)(hz:z.size=58)(w:q3g)(R:Act->q3g->Prop)(n OB A oc base k:Nat)(mn mx:Int)(L:List (Nat->Int))
  (h7:z[7]?=some (.int .i64 n)) (hn:n<5) (h8:z[8]?=some (.slice none 0 0)) (h9:z[9]?=some (.pointer (some ⟨OB,0,none⟩))) (hO:w.heap[OB]?=some (.cells #[.int .i64 mn,.int .i64 mx] 26 (0,0)))
  (l6:z[28]?=some (.slice (some ⟨A,0,none⟩) L.length oc)) (l5:z[29]?=some (.int .i64 L.length)) (a9:z[30]?=some (.int .i64 0)) (hown:w.ownsRow base 101 5 (.slice (some ⟨A,0,none⟩) L.length oc) L.length (zW L))
  (m5:0<=mn/\mn<=mx/\mx<=1000) (hk:(k:Int)=mx - mn+1) (hL:L.length*k<=900000)
  (hR:∀(z':Array q58) (x8:q58) w',z'.size=58->z'[8]?=some x8->(∀j,j<58->j<8\/(8<j/\j<11)\/(12<j/\j<30)\/54<j->z'[j]?=z[j]?)->w.grownBy w' none->w'.ownsRow w.heap.size 101 5 x8 (L.length*k) (zW (yU L n mn k))->(∀b,x8.ownBlock=some b->jl w' b)->R ⟨z',[]⟩ w') :
  (inn cL2).wp Tryp.prog (qe5 2 (yg R)) ⟨z,[]⟩ w:=by
 obtain⟨y0,y1,y2,y3,y4,y5,y6,y7,y8,y9,y10,y11,y12,y13,y14,y15,y16,y17,y18,y19,y20,y21,y22,y23,y24,y25,y26,y27,y28,y29,y30,y31,y32,y33,y34,y35,y36,y37,y38,y39,y40,y41,y42,y43,y44,y45,y46,y47,y48,y49,y50,y51,y52,y53,y54,y55,y56,y57,rfl⟩:=q6d z hz;simp at h7 h8 h9 l6 l5 a9;subst h7 h8 h9 l6 l5 a9;have HR:=q1D hR;have HO:=q1D hO;have HL:=q1D hown;have x4:OB<w.heap.size:=(q45.1 hO).1;have x5:L.length<=900000:=q87 (Nat.le_mul_of_pos_right _ (by omega)) hL;clear hR hO hown hz;simp only[cL2,cB1,cB0,Tryz.f137,q88,sqA,sqB,inn];go_wp2;go_loopw [8,30] (λov iv wr=>∃i:Nat,iv=.int .i64 i/\i<=L.length/\w.grownBy wr none/\wr.ownsRow w.heap.size 101 5 ov (i*k) (zW (yU (L.take i) n mn k))/\∀b,ov.ownBlock=some b->jl wr b) (λ_ iv _=>(L.length - qb2 iv).toNat)
 case atStart=>exact⟨0,rfl,by omega,q8j _ _,by simpa[yU,zW] using qcb w w.heap.size 101 5,λb hb=>by simp[qak] at hb⟩
 case round =>
  obtain⟨i,rfl,hi,hG,hO,hN⟩:=hrel;obtain⟨oa,om,a7,rfl⟩:=zV hO;have m4:=q1D hG;have b7:=q1D hO;have m3:=q1D hN;have hsz:=hG.size;by_cases hlt:i<L.length
  ·obtain⟨g,hg⟩:∃g,L[i]?=some g:=⟨_,q7C hlt⟩
   have hA:=(HL.out.lt A rfl).2;have cA:∀d,d<5->wr.cell? ⟨A,i*5+d,none⟩=some (.int .i64 (g d)):=λd hd=>by
    have h1:=HL.out.cellAt (i*5+d) (by omega);rw[q0f L i g hg d hd] at h1;exact hG.cell h1 (by simp)
   have c0:wr.cell? ⟨A,i*5,none⟩=some (.int .i64 (g 0)):=cA 0 (by omega);have c1:=cA 1 (by omega);have c2:=cA 2 (by omega);have c3:=cA 3 (by omega);have c4:=cA 4 (by omega);have o0:=hG.cell (qa HO.out (o:=0) rfl) (by simp);have o1:=hG.cell (qa HO.out (o:=1) rfl) (by simp);have n8:(i:Int)<(L.length:Int):=by omega
   have x3:IntKind.i64.wrap (mx - mn)=mx - mn:=qa7 _ (by omega);have x2:IntKind.i64.wrap (mx - mn+1)=mx - mn+1:=qa7 _ (by omega);have n3:=q1D hg;clear hG hO hN cA hg;go_upto_region 10 with(fail)
   obtain⟨Wb,b0⟩:∃Wb,Wb=wr.heap.size:=⟨_,rfl⟩
   obtain⟨w1,a6⟩:∃w1,w1=wr.alloc (qE g):=⟨_,rfl⟩
   have q1:w1.heap[Wb]?=some (qE g):=by rw[a6,b0];exact q7j wr _
   have g1:wr.grownBy w1 none:=by rw[a6];exact q34 _ _ none
   have q2:w.grownBy w1 none:=m4.out.trans g1;have q3:w1.ownsRow w.heap.size 101 5 (.slice oa om a7) (i*k) (zW (yU (L.take i) n mn k)):=by rw[a6];exact b7.out.alloc _
   have q4:∀b,(qbp oa om a7).ownBlock=some b->jl w1 b/\b≠Wb:=λb hb=>by
    obtain⟨cs,e,f,h1,h2⟩:=m3.out b hb;exact⟨⟨cs,e,f,by rw[a6];exact qp h1,h2⟩,by have:=(b7.out.lt b hb).2;omega⟩
   have p0:=g1.cell o0 (by simp);have p1:=g1.cell o1 (by simp);rw[<- b0];rw[show wr.alloc (.cells #[.int .i64 (g 0),.int .i64 (g 1),.int .i64 (g 2),.int .i64 (g 3),.int .i64 (g 4)] 101)=w1 from a6.symm];have n2:=q1D q1;have m9:=q1D q2;have m8:=q1D q3;have m7:=q1D q4;have m6:w.heap.size<=Wb:=by omega
   clear q1 q2 q3 q4 g1 a6 b0 c0 c1 c2 c3 c4 o0 o1;go_wp2;refine Code.wp_mono (jY (R:=λa u=>∃(z':Array q58) (x8:q58),a=⟨z',[]⟩/\z'.size=58/\z'[8]?=some x8/\(∀j,j<58->j∉j4->z'[j]?=(#[y0,y1,y2,y3,y4,y5,y6,.int .i64 n,.slice oa om a7,.pointer (some ⟨OB,0,none⟩),y10,.pointer (some ⟨Wb,0,none⟩),q5s,y13,y14,y15,y16,y17,y18,y19,y20,y21,y22,y23,y24,y25,y26,y27,.slice (some ⟨A,0,none⟩) L.length oc,.int .i64 L.length,.int .i64 i]:Array q58)[j]?\/30<j)/\(z'[55]?=some y55/\z'[56]?=some y56/\z'[57]?=some y57)/\w.grownBy u none/\u.ownsRow w.heap.size 101 5 x8 ((i+1)*k) (zW (yU (L.take (i+1)) n mn k))/\∀b,x8.ownBlock=some b->jl u b) ?_) ?_;rotate_left
   ·refine xg (c':=inn cIn) (by simp only[cIn,cB3,cL2,cB1,cB0,Tryz.f137,q88,sqA,sqB,inn]) ?_
    have a8:(yU (L.take i) n mn k).length=i*k:=by rw[vp,qcD,Nat.min_eq_left (by omega)]
    have hik:i*k+k<=900000:=by
     have h1:(i+1)*k<=L.length*k:=Nat.mul_le_mul_right _ hlt;rw[Nat.add_mul] at h1;omega
    refine qa1 _ rfl w w1 _ n OB Wb k mn mx g (yU (L.take i) n mn k) (.slice oa om a7) rfl hn rfl rfl HO.out rfl n2.out m6 (by rw[hk];rfl) rfl m9.out (by rw[a8];exact m8.out) m7.out ⟨m5.1,by omega⟩ (by omega) (by rw[a8];exact hik) ?_;intro z' x8 w' b1 b2 b3 b4 b5 b6;refine⟨z',x8,rfl,b1,b2,λj hj hn=>?_,⟨(b3 55 (by omega) (by simp[j4])).trans rfl,(b3 56 (by omega) (by simp[j4])).trans rfl,(b3 57 (by omega) (by simp[j4])).trans rfl⟩,b4,?_,b6⟩
    ·by_cases a9:30<j
     ·exact .inr a9
     ·left
      rw[b3 j hj hn];have x6:j≠12:=λe=>hn (by subst e;simp[j4]);obtain rfl | rfl | rfl | rfl | rfl | rfl | rfl | rfl | rfl | rfl | rfl | rfl | rfl | rfl | rfl | rfl | rfl | rfl | rfl | rfl | rfl | rfl | rfl | rfl | rfl | rfl | rfl | rfl | rfl | rfl:j=0\/j=1\/j=2\/j=3\/j=4\/j=5\/j=6\/j=7\/j=8\/j=9\/j=10\/j=11\/j=13\/j=14\/j=15\/j=16\/j=17\/j=18\/j=19\/j=20\/j=21\/j=22\/j=23\/j=24\/j=25\/j=26\/j=27\/j=28\/j=29\/j=30:=by omega
      all_goals rfl
    ·rw[a8] at b5
     rw[q4h L n mn k i g n3.out,Nat.add_mul,Nat.one_mul];exact b5
   ·rintro a u ⟨z',x8,rfl,l4,e8,Z,⟨l9,l8,l7⟩,f1,f2,f3⟩
    obtain⟨v0,v1,v2,v3,v4,v5,v6,v7,v8,v9,x0,w9,w8,w7,w6,u9,u8,u7,u6,u5,u0,t9,t8,t7,t6,t5,t4,t3,t2,t1,s9,s8,s7,s6,s5,s4,s3,s2,s1,r9,r8,r7,r6,r5,r4,r3,q7,q6,q5,q0,p9,p8,p7,p6,p5,p4,p3,n9,rfl⟩:=q6d z' l4;simp at e8 l9 l8 l7;subst e8 l9 l8 l7;have k0:=(Z 0 (by omega) (by simp[j4])).resolve_right (by omega);have k1:=(Z 1 (by omega) (by simp[j4])).resolve_right (by omega);have k2:=(Z 2 (by omega) (by simp[j4])).resolve_right (by omega);have k3:=(Z 3 (by omega) (by simp[j4])).resolve_right (by omega);have k4:=(Z 4 (by omega) (by simp[j4])).resolve_right (by omega);have k5:=(Z 5 (by omega) (by simp[j4])).resolve_right (by omega);have k6:=(Z 6 (by omega) (by simp[j4])).resolve_right (by omega);have k7:=(Z 7 (by omega) (by simp[j4])).resolve_right (by omega);have k9:=(Z 9 (by omega) (by simp[j4])).resolve_right (by omega);have k8:=(Z 10 (by omega) (by simp[j4])).resolve_right (by omega);have g9:=(Z 11 (by omega) (by simp[j4])).resolve_right (by omega);have g8:=(Z 13 (by omega) (by simp[j4])).resolve_right (by omega);have g7:=(Z 14 (by omega) (by simp[j4])).resolve_right (by omega);have g6:=(Z 15 (by omega) (by simp[j4])).resolve_right (by omega);have g5:=(Z 16 (by omega) (by simp[j4])).resolve_right (by omega);have e9:=(Z 17 (by omega) (by simp[j4])).resolve_right (by omega);have e7:=(Z 18 (by omega) (by simp[j4])).resolve_right (by omega);have e6:=(Z 19 (by omega) (by simp[j4])).resolve_right (by omega);have e5:=(Z 20 (by omega) (by simp[j4])).resolve_right (by omega);have e4:=(Z 21 (by omega) (by simp[j4])).resolve_right (by omega);have d9:=(Z 22 (by omega) (by simp[j4])).resolve_right (by omega);have d8:=(Z 23 (by omega) (by simp[j4])).resolve_right (by omega);have d7:=(Z 24 (by omega) (by simp[j4])).resolve_right (by omega);have d6:=(Z 25 (by omega) (by simp[j4])).resolve_right (by omega);have d5:=(Z 26 (by omega) (by simp[j4])).resolve_right (by omega);have c9:=(Z 27 (by omega) (by simp[j4])).resolve_right (by omega);have c8:=(Z 28 (by omega) (by simp[j4])).resolve_right (by omega);have b9:=(Z 29 (by omega) (by simp[j4])).resolve_right (by omega);have b8:=(Z 30 (by omega) (by simp[j4])).resolve_right (by omega);clear Z l4;simp at k0 k1 k2 k3 k4 k5 k6 k7 k9 k8 g9 g8 g7 g6 g5 e9 e7 e6 e5 e4 d9 d8 d7 d6 d5 c9 c8 b9 b8;subst k0 k1 k2 k3 k4 k5 k6 k7 k9 k8 g9 g8 g7 g6 g5 e9 e7 e6 e5 e4 d9 d8 d7 d6 d5 c9 c8 b9 b8;have n7:=q1D f1;have n6:=q1D f2;have n4:=q1D f3;clear f1 f2 f3 p0 p1;have x1:IntKind.i64.wrap ((i:Int)+1)=i+1:=qa7 _ (by omega);dsimp only;go_wp2;go_roundw
    case rel=>exact⟨i+1,by simp,by omega,n7.out,n6.out,n4.out⟩
    case measure=>simp[qb2];omega
  ·obtain rfl:i=L.length:=by omega
   clear hG hO hN;go_wp2;refine HR.out _ (.slice oa om a7) wr rfl rfl (λj hj hc=>?_) m4.out ?_ m3.out
   ·obtain rfl | rfl | rfl | rfl | rfl | rfl | rfl | rfl | rfl | rfl | rfl | rfl | rfl | rfl | rfl | rfl | rfl | rfl | rfl | rfl | rfl | rfl | rfl | rfl | rfl | rfl | rfl | rfl | rfl | rfl:j=0\/j=1\/j=2\/j=3\/j=4\/j=5\/j=6\/j=7\/j=9\/j=10\/j=13\/j=14\/j=15\/j=16\/j=17\/j=18\/j=19\/j=20\/j=21\/j=22\/j=23\/j=24\/j=25\/j=26\/j=27\/j=28\/j=29\/j=55\/j=56\/j=57:=by omega
    all_goals rfl
   ·have h1:=b7.out
    rw[qcc] at h1;exact h1
def kOf(p:Par):Nat:=(p.mx - p.mn+1).toNat
def kR(ps:List Par)(L:List (Nat->Int))(x:Int):List (Nat->Int):=match ps[x.toNat]? with | some p=>yU L x.toNat p.mn (kOf p) | none=>L
def yN(ps:List Par)(wl:List Int):List (Nat->Int):=wl.foldl (kR ps) [λ_=>0]
theorem q81(ps:List Par)(wl:List Int)(i:Nat)(x:Int)(p:Par)(h:wl[i]?=some x)(hp:ps[x.toNat]?=some p):yN ps (wl.take (i+1))=yU (yN ps (wl.take i)) x.toNat p.mn (kOf p):=by
 rw[qbc,h];simp[yN,List.foldl_append,kR,hp]
theorem q80(lo hi:Nat)(yv vv:q58)(ps:List Par)(lim:Int)(wl:List Int)(w:q3g)(hY:jg lo hi w yv ps lim)(hI:qe lo hi w vv wl)(hhi:hi<=w.heap.size)(h5:ps.length<=5)(hx:∀x∈wl,0<=x/\x<ps.length)
  (hp:∀p∈ps,0<=p.mn/\p.mn<=p.mx/\p.mx<=1000) (hN:∀j,j<=wl.length->(yN ps (wl.take j)).length<=900000) :
  qaD Tryp.prog 137 #[yv,vv] w λe w'=>∃v,e=.returned v/\w.grownBy w' none/\w'.ownsRow w.heap.size 101 5 v (yN ps wl).length (zW (yN ps wl))/\∀b,v.ownBlock=some b->jl w' b:=by
 obtain⟨qv,rfl,hP⟩:=hY;obtain⟨yb,yc,rfl,x5,-⟩:=hP.cell;obtain⟨base,cap,rfl,z2,-⟩:=hI.cell;obtain⟨A,hA⟩:∃A,A=w.heap.size:=⟨_,rfl⟩
 obtain⟨w1,Z⟩:∃w1,w1=(w.alloc (.cells #[.slice yb ps.length yc,.int .i64 lim] 91)).alloc (qE λ_=>0):=⟨_,rfl⟩
 have b0:w.grownBy w1 none:=by rw[Z];exact(q34 _ _ none).trans (q34 _ _ none)
 have d9:w1.heap[A]?=some (.cells #[.slice yb ps.length yc,.int .i64 lim] 91 (0,0)):=by rw[Z,hA];exact qp (q7j w _)
 have z0:w1.heap.size=A+2:=by rw[Z,q8f,q8f,hA]
 have c9:w1.heap[A+1]?=some (qE λ_=>0):=by
  rw[Z];have:=q7j (w.alloc (.cells #[.slice yb ps.length yc,.int .i64 lim] 91)) (qE λ_=>0);rw[q8f,<- hA] at this;exact this
 have d7:w1.ownsRow A 101 5 (.slice (some ⟨A+1,0,none⟩) 1 1) 1 (zW [λ_=>0]):=⟨by simp[zW,Zf],.inr ⟨A+1,1,_,rfl,by omega,c9,by omega,by unfold maxLen;omega,by simp,by simp[zW,Zf]⟩⟩
 have d8:jl w1 (A+1):=Zm c9 (by intro v hv;simp at hv;exact⟨_,_,hv⟩);have m9:=q1D (hI.kept b0 (by simp));have m5:=q1D (hP.kept b0 (by simp));have HX:=q1D hx;have m4:=q1D hp;have HN:=q1D hN;have g9:=q1D Z;have HA:=q1D hA;have n2:=q1D b0;have n7:=q1D d9;have m6:=q1D d7;have m8:=q1D d8;have z3:hi<=A:=by omega
 clear hI hP hx hp hN Z hA b0 d9 c9 d7 d8;go_enter Tryp.func137,Tryz.ntmps137;go_upto_region 2 with(fail)
 rw[<- HA.out];rw[show(w.alloc (.cells #[.slice yb ps.length yc,.int .i64 lim] 91)).alloc (.cells #[.int .i64 0,.int .i64 0,.int .i64 0,.int .i64 0,.int .i64 0] 101)=w1 from g9.out.symm];clear g9;go_wp2;go_loopw [5,17] (λov iv wr=>∃j:Nat,iv=.int .i64 j/\j<=wl.length/\w1.grownBy wr none/\wr.ownsRow A 101 5 ov (yN ps (wl.take j)).length (zW (yN ps (wl.take j)))/\(∀b,ov.ownBlock=some b->jl wr b)/\0<(yN ps (wl.take j)).length) (λ_ iv _=>(wl.length - qb2 iv).toNat)
 case atStart=>exact⟨0,rfl,by omega,q8j _ _,by simpa[yN] using m6.out,λb hb=>(by simp[qak] at hb;subst hb;exact m8.out),by simp[yN]⟩
 case round =>
  obtain⟨j,rfl,hj,hG,hO,hN,a7⟩:=hrel;obtain⟨RA,rc,rfl,A0,n9⟩:=hO.form a7;have k5:=q1D hG;have h9:=q1D hO;have m7:=q1D hN;have hsz:=hG.size;by_cases hlt:j<wl.length
  ·have k0:=m9.out.kept hG (by simp)
   have h8:=m5.out.kept hG (by simp);obtain⟨b1,c1,he,-,hc⟩:=k0.cell;cases he;obtain⟨VB,vo,rfl,p5,p4,p3,b7⟩:=hc (by intro e;rw[e] at hlt;simp at hlt);have x0:=b7 j hlt;obtain⟨x,a8⟩:∃x,wl[j]?=some x:=⟨_,q7C hlt⟩
   obtain⟨x6,b8⟩:=HX.out x (q8z a8);rw[a8] at x0;simp only[q88] at x0;obtain⟨n,rfl⟩:∃n:Nat,x=n:=⟨x.toNat,by omega⟩
   obtain⟨b2,c2,he,-,hc⟩:=h8.cell;cases he;obtain⟨YB,yo,rfl,z7,z5,z4,d6⟩:=hc (by intro e;rw[e] at b8;simp at b8;omega);obtain⟨p,b9,p0,p1,-,-⟩:=d6 n (by omega);have c8:=m4.out p (q8z b9);have a0:=hG.cell (qa n7.out (o:=0) rfl) (by simp);have n8:(j:Int)<(wl.length:Int):=by omega
   have z1:(n:Int)<(ps.length:Int):=b8;have l6:=q1D a8;have m3:=q1D b9;clear hG hO hN hc b7 d6 a8 b9 k0 h8;go_upto_region 7 with(fail)
   obtain⟨L,a9⟩:∃L,L=yN ps (wl.take j):=⟨_,rfl⟩
   obtain⟨OB,d5⟩:∃OB,OB=wr.heap.size:=⟨_,rfl⟩
   obtain⟨w2,a6⟩:∃w2,w2=wr.alloc (.cells #[.int .i64 p.mn,.int .i64 p.mx] 26):=⟨_,rfl⟩
   have k9:n<5:=by omega
   have l4:((kOf p:Nat):Int)=p.mx - p.mn+1:=by unfold kOf;omega
   have hcl:yN ps (wl.take (j+1))=yU L n p.mn (kOf p):=by rw[q81 ps wl j n p l6.out (by simpa using m3.out),<- a9];simp
   have l5:L.length*kOf p<=900000:=by have:=HN.out (j+1) hlt;rw[hcl,vp] at this;exact this
   have q1:w2.heap[OB]?=some (.cells #[.int .i64 p.mn,.int .i64 p.mx] 26 (0,0)):=by rw[a6,d5];exact q7j wr _
   have q2:wr.grownBy w2 none:=by rw[a6];exact q34 _ _ none
   have q3:w2.ownsRow A 101 5 (.slice (some ⟨RA,0,none⟩) L.length rc) L.length (zW L):=by rw[a6,a9];exact h9.out.alloc _
   have k8:A<=w2.heap.size:=by have:=q2.size;omega
   rw[<- a9] at a7 ⊢;rw[<- d5];rw[show wr.alloc (.cells #[.int .i64 p.mn,.int .i64 p.mx] 26)=w2 from a6.symm];have l9:=q1D q1;have l8:=q1D q2;have l7:=q1D q3;have k6:=q1D hcl;clear q1 q2 q3 hcl a6 d5 a9 x0 p0 p1 a0;go_wp2;refine Code.wp_mono (jY (R:=λa u=>∃(z':Array q58) (x8:q58),a=⟨z',[]⟩/\z'.size=58/\z'[8]?=some x8/\(z'[0]?=some (.agg #[.slice (some ⟨YB,yo,none⟩) ps.length yc,.int .i64 lim])/\z'[1]?=some (.slice (some ⟨VB,vo,none⟩) wl.length cap)/\z'[2]?=some (.pointer (some ⟨A,0,none⟩))/\z'[3]?=some (q5s)/\z'[4]?=some (.slice none 0 0)/\z'[6]?=some (q5s)/\z'[10]?=some (q5s)/\z'[13]?=some (.agg #[.int .i64 0,.int .i64 0,.int .i64 0,.int .i64 0,.int .i64 0])/\z'[14]?=some (.slice (some ⟨A+1,0,none⟩) 1 1)/\z'[15]?=some (.slice (some ⟨VB,vo,none⟩) wl.length cap)/\z'[16]?=some (.int .i64 wl.length)/\z'[17]?=some (.int .i64 j)/\z'[57]?=some (q5s))/\w1.grownBy u none/\u.ownsRow A 101 5 x8 (yN ps (wl.take (j+1))).length (zW (yN ps (wl.take (j+1))))/\∀b,x8.ownBlock=some b->jl u b) ?_) ?_;rotate_left
   ·refine xg (c':=inn cL2) (by simp only[cL2,cB1,cB0,Tryz.f137,q88,sqA,sqB,inn]) ?_
    refine mid_at _ rfl w2 _ n OB RA rc A (kOf p) p.mn p.mx L rfl k9 rfl rfl l9.out rfl rfl rfl l7.out ⟨c8.1,c8.2.1,c8.2.2⟩ l4 l5 ?_;intro z' x8 w' b1 b2 b3 b4 b5 b6;refine⟨z',x8,rfl,b1,b2,⟨(b3 0 (by omega) (by omega)).trans rfl,(b3 1 (by omega) (by omega)).trans rfl,(b3 2 (by omega) (by omega)).trans rfl,(b3 3 (by omega) (by omega)).trans rfl,(b3 4 (by omega) (by omega)).trans rfl,(b3 6 (by omega) (by omega)).trans rfl,(b3 10 (by omega) (by omega)).trans rfl,(b3 13 (by omega) (by omega)).trans rfl,(b3 14 (by omega) (by omega)).trans rfl,(b3 15 (by omega) (by omega)).trans rfl,(b3 16 (by omega) (by omega)).trans rfl,(b3 17 (by omega) (by omega)).trans rfl,(b3 57 (by omega) (by omega)).trans rfl⟩,(k5.out.trans l8.out).trans b4,?_,b6⟩;rw[k6.out,vp];exact Yf b5 k8
   ·rintro a u ⟨z',x8,rfl,k7,e8,⟨e0,e1,e2,e3,e4,e6,g8,g7,g6,g5,e9,e7,e5⟩,f1,f2,f3⟩
    have c3:0<(yN ps (wl.take (j+1))).length:=by
     rw[k6.out,vp];exact Nat.mul_pos a7 (by omega)
    obtain⟨v0,v1,v2,v3,v4,v5,v6,v7,v8,v9,x4,x3,x2,x1,w9,w8,w7,w6,u9,u8,u7,u6,u5,u0,t9,t8,t7,t6,t5,t4,t3,t2,t1,s9,s8,s7,s6,s5,s4,s3,s2,s1,r9,r8,r7,r6,r5,r4,r3,q7,q6,q5,q4,q0,p9,p8,p7,p6,rfl⟩:=q6d z' k7;simp at e8 e0 e1 e2 e3 e4 e6 g8 g7 g6 g5 e9 e7 e5;subst e8 e0 e1 e2 e3 e4 e6 g8 g7 g6 g5 e9 e7 e5;have n6:=q1D f1;have n4:=q1D f2;have n3:=q1D f3;clear f1 f2 f3;have x7:IntKind.i64.wrap ((j:Int)+1)=j+1:=qa7 _ (by omega);dsimp only;go_wp2;go_roundw
    case rel=>exact⟨j+1,by simp,by omega,n6.out,n4.out,n3.out,c3⟩
    case measure=>simp[qb2];omega
  ·obtain rfl:j=wl.length:=by omega
   clear hG hO hN;go_wp2;go_ret;refine⟨_,rfl,n2.out.trans k5.out,?_,m7.out⟩;have h1:=h9.out;rw[<- HA.out];simpa[qcc] using h1
end Go.Proofs.YtidgnkmjgioapaaGreat
end
section
namespace Go.Proofs.YtidgnkmjgioapaaGreat
open Go Go.RowKit Go.Co
theorem Tryp.info3p:(Tryp.prog.info? 3).map (λi=>(i.zero,i.size,i.bytes))=some (some (.int .i64 0),1,8):=by kernel_rfl
theorem Tryp.und29':Tryp.prog.underlying 29=some (.slice 3):=by rw[Tryp.und];exact Tryz.underlying29
theorem q3e{w:q3g}{base n hi:Nat}{v:q58}{l:List Int}(h:w.ownsRow base 3 1 v n (l.map (q9q .i64)))(hl:l.length<=1000000)(hhi:w.heap.size<=hi):qe base hi w v l:=by
 have hn:n=l.length:=by have:=h.1;simpa using this.symm
 subst hn;rcases h.2 with⟨rfl,h0⟩ | ⟨g,cap,cur,rfl,hb,hg,_,_,hcs,ht⟩
 ·have:l=[]:=qbo h0
  subst this;exact .nil _ _ _
 ·have hlt:=(q45.1 hg).1
  refine⟨_,cap,rfl,by omega,λ_=>⟨g,0,cur,_,rfl,hb,by omega,hg,λi hi=>?_⟩⟩;have h1:(l.map (q9q .i64))[i]?=some (.int .i64 (l[i]?.getD 0)):=by simp[q7C hi]
  rw[<- ht,List.getElem?_take] at h1;split at h1
  ·rw[q9m];simpa using h1
  ·cases h1
theorem kF{w:q3g}{B o j:Nat}{u:q58}(h:w.cell? ⟨B,o+j,none⟩=some u):w.cell? ((⟨B,o,none⟩:qb9).add j)=some u:=by
 have e:(⟨B,o,none⟩:qb9).add j=⟨B,o+j,none⟩:=by unfold Addr.add;split<;>simp_all
 rw[e];exact h
theorem q5e(w:q3g):(binOp .eql 29 (.slice none 0 0) (.slice none 0 0)).run Tryp.prog w=.ok (.bool true) w:=by kernel_rfl
theorem q1j(w:q3g)(B o n c:Nat):(binOp .eql 29 (.slice (some ⟨B,o,none⟩) n c) (.slice none 0 0)).run Tryp.prog w=.ok (.bool false) w:=by kernel_rfl
attribute [local simp] q5e q1j
attribute [local go_sem] q5e q1j
theorem ZW(lo hi:Nat)(v:q58)(l:List Int)(w:q3g)(hI:qe lo hi w v l)(hhi:hi<=w.heap.size)(hne:l≠[]\/v=.slice none 0 0)(hl:l.length<=1000) :
  qaD Tryp.prog 84 #[v] w λe w'=>∃v',e=.returned v'/\w.grownBy w' none/\qe w.heap.size w'.heap.size w' v' l:=by
 obtain⟨i0,b7,b0,a9,a8⟩:=qch Tryp.info3p;by_cases h0:l=[]
 ·subst h0
  have hv:v=.slice none 0 0:=hne.resolve_left (λh=>h rfl);subst hv;go_enter Tryp.func84,Tryz.ntmps84;go_wp2;go_ret;exact⟨_,rfl,q8j _ _,.nil _ _ _⟩
 ·obtain⟨base,cap,rfl,b9,hc⟩:=hI
  obtain⟨B,o,cs,fr,rfl,h1,h2,h3,h4⟩:=hc h0;have a7:0<l.length:=List.length_pos_iff.2 h0;have HN:=q1D (show ∀j u,(l.map (q9q .i64))[j]?=some u->cs[o+j]?=some u from λj u hu=>by
   rw[List.getElem?_map] at hu;cases hj:l[j]? with
   | none=>rw[hj] at hu;cases hu
   | some x =>
    rw[hj] at hu;cases hu;have b6:=(q8w.1 hj).1;have:=h4 j b6;rw[hj] at this;exact this)
  have HB:=q1D h3;clear hc h4 h3;go_enter Tryp.func84,Tryz.ntmps84;go_wp2_with (first
   | (at_builtin;go_must (refine wpList_append_lies _ (by rfl) _ _ _ (by rfl) w.heap.size 3 i0 _ 1 8 Tryp.und29' b7 b0 a9 a8 rfl (by omega) (.slice (some ⟨w.heap.size,0,none⟩) 0 0) 0 [] (by rfl) ⟨by simp,.inr ⟨w.heap.size,0,#[],rfl,by omega,q7j w _,by omega,by unfold maxLen;omega,by simp,by simp⟩⟩ ⟨B,o,none⟩ l.length cap (l.map (q9q .i64)) (by rfl) (by simp) (λj u hu=>kF (qa (qp HB.out) (HN.out j u hu))) (by intro u hu;simp at hu;obtain⟨x,_,rfl⟩:=hu;rfl) a7 (by unfold maxLen;omega) (by omega) (by simp) (w.heap.size+1) (by simp) ?_);intro gg b8 w5 Z a6 c3 hgl;have HG:=q1D a6;have HO:=q1D Z;clear a6 Z))
  go_ret;refine⟨_,rfl,(q34 _ _ none).andThen HG.out (λj e=>.inl ?_),q3e (n:=0+l.length) (by simpa using HO.out) (by omega) (q5m _)⟩;simp[qak] at e;omega
end Go.Proofs.YtidgnkmjgioapaaGreat
end
section
namespace Go.Proofs.YtidgnkmjgioapaaGreat
open Go.RowKit
theorem q9o{w w':q3g}{base size n:Nat}{e:q8u}{v:q58}{xs:List q58}(h:w.ownsRow base e size v n xs)(hg:w.grownBy w' none):w'.ownsRow base e size v n xs:=h.kept hg (qd6 (v.ownBlock=none))
structure HpI(b g Q B0 n i:Nat)(ps:List Par)(lim:Int)(pv:q58)(ord l:List Int)(ov:q58)(w0 w wr:q3g):Prop where
 sub:l.Sublist (ord.take i)
 tall:zj ps l<=lim
 t0:0<=zj ps l
 own:wr.ownsRow B0 3 1 ov l.length (l.map (q9q .i64))
 tin:zp wr b (g+i)
 gr:w.grownBy wr (some b)
 gr0:w0.grownBy wr (some b)
def QZ(x y:Int):Int:=if x<y then -1 else if y<x then 1 else 0
def zv:List Int->List Int->Int
 | [],[]=>0
 | [],_::_=>-1
 | _::_,[]=>1
 | x::a,y::b=>if QZ x y≠0 then QZ x y else zv a b
theorem cmp_any(x y:Int)(w:q3g):qaD Tryp.prog 157 #[.int .i64 x,.int .i64 y] w λe w'=>e=.returned (.int .i64 (QZ x y))/\w=w':=by
 unfold QZ;by_cases h1:x<y
 ·rw[if_pos h1]
  go_enter Tryp.func157,Tryz.ntmps157;go_wp2_with (first | (go_at_call 198;refine(Qk _ _).mono ?_;rintro e w2 ⟨rfl,rfl⟩));go_ret;exact⟨rfl,rfl⟩
 ·rw[if_neg h1]
  by_cases h2:y<x
  ·rw[if_pos h2]
   go_enter Tryp.func157,Tryz.ntmps157;go_wp2_with (first | (go_at_call 198;refine(Qk _ _).mono ?_;rintro e w2 ⟨rfl,rfl⟩));go_ret;exact⟨rfl,rfl⟩
  ·rw[if_neg h2]
   go_enter Tryp.func157,Tryz.ntmps157;go_wp2_with (first | (go_at_call 198;refine(Qk _ _).mono ?_;rintro e w2 ⟨rfl,rfl⟩));go_ret;exact⟨rfl,rfl⟩
theorem q0n(a b:List Int)(k:Nat)(x y:Int)(hx:a[k]?=some x)(hy:b[k]?=some y):zv (a.drop k) (b.drop k)=if QZ x y≠0 then QZ x y else zv (a.drop (k+1)) (b.drop (k+1)):=by
 obtain⟨h1,e1⟩:=q8w.1 hx;obtain⟨h2,e2⟩:=q8w.1 hy;rw[qcq h1,qcq h2,e1,e2];rfl
theorem Jj(la ha lb hb:Nat)(va vb:q58)(a b:List Int)(w:q3g)(hA:qe la ha w va a)(hB:qe lb hb w vb b) :
  qaD Tryp.prog 122 #[va,vb] w λe w'=>e=.returned (.int .i64 (zv a b))/\w=w':=by
 obtain⟨ba,ca,rfl,b9,h1⟩:=hA.cell;obtain⟨bb,cb,rfl,hl2,h2⟩:=hB.cell;have H1:=q1D h1;have H2:=q1D h2;clear h1 h2 hA hB;go_enter Tryp.func122,Tryz.ntmps122;go_wp2;go_loopw [11] (λiv wr=>∃k:Nat,iv=.int .i64 k/\k<=a.length/\k<=b.length/\zv a b=zv (a.drop k) (b.drop k)/\w=wr) (λiv _=>(a.length - qb2 iv).toNat)
 case atStart=>exact⟨0,rfl,by omega,by omega,rfl,rfl⟩
 case round =>
  obtain⟨k,rfl,hk,c3,hc,rfl⟩:=hrel;have HC:=q1D hc;clear hc;by_cases hlt:k<a.length
  ·obtain⟨x,e1⟩:∃x,a[k]?=some x:=⟨_,q7C hlt⟩
   obtain⟨A1,o1,rfl,e4,d9,d8,a8⟩:=H1.out (by intro e;rw[e] at hlt;simp at hlt);have x1:=a8 k hlt;rw[e1] at x1;simp only[q88] at x1;have c9:(k:Int)<(a.length:Int):=by omega
   have E1:=q1D e1;clear a8 e1;by_cases Z:k<b.length
   ·obtain⟨y,e2⟩:∃y,b[k]?=some y:=⟨_,q7C Z⟩
    obtain⟨B1,o2,rfl,d7,d6,d5,a7⟩:=H2.out (by intro e;rw[e] at Z;simp at Z);have y1:=a7 k Z;rw[e2] at y1;simp only[q88] at y1;have c8:(k:Int)<(b.length:Int):=by omega
    have hst:=q0n a b k x y E1.out e2;have a6:=q1D hst;have hcc:=cmp_any x y w;clear a7 e2 hst;generalize QZ x y=z at hcc a6;have a9:=q1D hcc;clear hcc;by_cases hz:z=0
    ·subst hz
     go_wp2_with (first | (go_at_call 157;refine(a9.out).mono ?_;rintro e w2 ⟨rfl,rfl⟩));go_roundw
     case rel=>exact⟨k+1,by simp,by omega,by omega,by rw[HC.out,a6.out];simp,by first | trivial | rfl⟩
     case measure=>simp[qb2];omega
    ·have b7:(z != 0)=true:=by simpa using hz
     have HZ:=q1D hz;clear hz;go_wp2_with (first | (go_at_call 157;refine(a9.out).mono ?_;rintro e w2 ⟨rfl,rfl⟩));go_ret;exact⟨by rw[HC.out,a6.out,if_pos HZ.out];rfl,rfl⟩
   ·have b8:(b.length:Int)<=(k:Int):=by omega
    have hv:zv a b=1:=by
     rw[HC.out,qdf (show b.length<=k by omega),qcq hlt];rfl
    have HV:=q1D hv;clear hv;go_wp2;go_ret;exact⟨by rw[HV.out];rfl,rfl⟩
  ·obtain rfl:k=a.length:=by omega
   by_cases b6:a.length<b.length
   ·have b0:(a.length:Int)<(b.length:Int):=by omega
    have hv:zv a b=-1:=by
     rw[HC.out,qdf (q5m _),qcq b6];rfl
    have HV:=q1D hv;clear hv;go_wp2;go_ret;exact⟨by rw[HV.out];rfl,rfl⟩
   ·have b0:¬ (a.length:Int)<(b.length:Int):=by omega
    have hv:zv a b=0:=by
     rw[HC.out,qdf (q5m _),qdf (show b.length<=a.length by omega)];rfl
    have HV:=q1D hv;clear hv;go_wp2;go_ret;exact⟨by rw[HV.out];rfl,rfl⟩
theorem Jh(la ha lb hb:Nat)(va vb:q58)(a b:List Int)(w:q3g)(hA:qe la ha w va a)(hB:qe lb hb w vb b) :
  qaD Tryp.prog 99 #[va,vb] w λe w'=>e=.returned (.bool (decide (zv a b<0)))/\w=w':=by
 have hc:=Jj la ha lb hb va vb a b w hA hB;obtain⟨ba,ca,rfl,Z,h1⟩:=hA.cell;obtain⟨bb,cb,rfl,hl2,h2⟩:=hB.cell;clear h1 h2 hA hB;generalize zv a b=z at hc ⊢;have HC:=q1D hc;clear hc;go_enter Tryp.func99,Tryz.ntmps99;go_wp2_with (first | (go_at_call 122;refine(HC.out).mono ?_;rintro e w2 ⟨rfl,rfl⟩));go_ret;exact⟨rfl,rfl⟩
def jt(a b:List Int):Bool:=decide (b.length<a.length) || (decide (a.length=b.length) && decide (zv a b<0))
theorem q0a(la ha lb hb:Nat)(va vb:q58)(a b:List Int)(w:q3g)(hA:qe la ha w va a)(hB:qe lb hb w vb b) :
  qaD Tryp.prog 98 #[va,vb] w λe w'=>e=.returned (.bool (jt a b))/\w=w':=by
 have hc:=Jh la ha lb hb va vb a b w hA hB;obtain⟨ba,ca,rfl,a8,h1⟩:=hA.cell;obtain⟨bb,cb,rfl,hl2,h2⟩:=hB.cell;unfold jt;generalize decide (zv a b<0)=z at hc ⊢;have HC:=q1D hc;clear hc h1 h2 hA hB;by_cases hgt:b.length<a.length
 ·have a6:(b.length:Int)<(a.length:Int):=by omega
  have hv:(decide (b.length<a.length) || (decide (a.length=b.length) && z))=true:=by simp[hgt]
  have HV:=q1D hv;clear hv hgt;go_enter Tryp.func98,Tryz.ntmps98;go_wp2_with (first | (go_at_call 99;refine(HC.out).mono ?_;rintro e w2 ⟨rfl,rfl⟩));go_ret;exact⟨by rw[HV.out];rfl,rfl⟩
 ·have a6:¬ (b.length:Int)<(a.length:Int):=by omega
  by_cases Z:a.length=b.length
  ·have a7:((a.length:Int) == (b.length:Int))=true:=by simp[Z]
   have hv:(decide (b.length<a.length) || (decide (a.length=b.length) && z))=z:=by simp[Z]
   have HV:=q1D hv;clear hv hgt Z;go_enter Tryp.func98,Tryz.ntmps98;go_wp2_with (first | (go_at_call 99;refine(HC.out).mono ?_;rintro e w2 ⟨rfl,rfl⟩));go_ret;exact⟨by rw[HV.out];rfl,rfl⟩
  ·have a7:((a.length:Int) == (b.length:Int))=false:=by rw[beq_eq_false_iff_ne];omega
   have hv:(decide (b.length<a.length) || (decide (a.length=b.length) && z))=false:=by simp[Z];omega
   have HV:=q1D hv;clear hv hgt Z;go_enter Tryp.func98,Tryz.ntmps98;go_wp2_with (first | (go_at_call 99;refine(HC.out).mono ?_;rintro e w2 ⟨rfl,rfl⟩));go_ret;exact⟨by rw[HV.out];rfl,rfl⟩
def qQ(n:Nat):List Int:=(qa4 n).map λ(i:Nat)=>(i:Int)
theorem qP(n:Nat):(qQ n).length=n:=by simp[qQ]
theorem KV(n:Nat):qQ (n+1)=qQ n++[(n:Int)]:=by simp[qQ,List.range_succ]
theorem xS(yb:Option qb9)(n yc:Nat)(lim:Int)(w:q3g)(hn:n<=1000) :
  qaD Tryp.prog 100 #[.agg #[.slice yb n yc,.int .i64 lim]] w λe w'=>∃v,e=.returned v/\w.grownBy w' none/\qe w.heap.size w'.heap.size w' v (qQ n):=by
 obtain⟨i0,b9,b8,b7,b6⟩:=qch Tryp.info3p;obtain⟨Y,hY⟩:∃Y,Y=w.heap.size:=⟨_,rfl⟩
 obtain⟨w1,a7⟩:∃w1,w1=w.alloc (.cells #[.slice yb n yc,.int .i64 lim] 91):=⟨_,rfl⟩
 have a8:w.grownBy w1 none:=by rw[a7];exact q34 _ _ none
 have a9:w1.heap[Y]?=some (.cells #[.slice yb n yc,.int .i64 lim] 91 (0,0)):=by rw[a7,hY];exact q7j w _
 have q0:w1.cell? ⟨Y,0,none⟩=some (.slice yb n yc):=qa a9 rfl;have d7:Y<=w1.heap.size:=by have:=a8.size;omega
 have c3:=q1D a7;have HY:=q1D hY;have b0:=q1D a8;clear a7 hY a8 a9;go_enter Tryp.func100,Tryz.ntmps100;go_upto_region 1 with(fail)
 rw[<- HY.out,show w.alloc (.cells #[.slice yb n yc,.int .i64 lim] 91)=w1 from c3.out.symm];go_wp2;go_loopw [3,9] (λov iv wr=>∃k:Nat,iv=.int .i64 k/\k<=n/\w1.grownBy wr none/\wr.ownsRow w1.heap.size 3 1 ov k ((qQ k).map (q9q .i64))) (λ_ iv _=>(n - qb2 iv).toNat)
 case atStart=>exact⟨0,rfl,by omega,q8j _ _,qcb _ _ _ _⟩
 case round =>
  obtain⟨k,rfl,hk,hG,hO⟩:=hrel;obtain⟨oa,om,oc,rfl⟩:=zV hO;have HG:=q1D hG;have HO:=q1D hO;have d6:=hG.size;by_cases hlt:k<n
  ·have d5:(k:Int)<(n:Int):=by omega
   clear hG hO;go_wp2_with (first
    | (at_builtin;go_must (refine wpList_append_own _ rfl _ _ 29 rfl w1.heap.size 3 i0 _ 1 8 Tryp.und29' b9 b8 b7 b6 rfl (by decide) (.slice oa om oc) k _ rfl (HO.out.alloc _) ⟨wr.heap.size,0,none⟩ 1 1 [.int .i64 k] rfl rfl (qbg (cs:=#[.int .i64 k]) (t:=3) (fr:=(0,0)) (q7j wr _)) (by simp[qbD]) (by unfold maxLen;omega) (by omega) (by simp;omega) ?_);intro v' w7 Z a6 _;obtain⟨g',cap',rfl⟩:=ownsRow_succ Z;have c8:=q1D Z;have c9:=q1D a6;clear Z a6))
   go_roundw
   case rel =>
    refine⟨k+1,by simp,by omega,(HG.out.trans (q34 _ _ none)).andThen c9.out (λj e=>.inl (HO.out.lt j e).1),?_⟩;rw[KV,qc5];exact c8.out
   case measure=>simp[qb2];omega
  ·obtain rfl:k=n:=by omega
   clear hG hO;go_wp2;go_ret;exact⟨_,rfl,b0.out.trans HG.out,(qe.own HO.out (by rw[qP];omega)).mono b0.out.size (q5m _)⟩
def TakeR(L:Nat)(s:Bool)(bv xv:q58)(Z x:List Int)(w w':q3g):Prop :=
 w.grownBy w' (some L)/\w'.heap[L]?=some (.cells #[.func (.func 98) #[] #[],if s=true/\jt x Z=false then bv else xv,.bool true] 108 (0,0))
theorem q8s(L:Nat)(s:Bool)(bv xv:q58)(Z x:List Int)(w:q3g)(hL:w.heap[L]?=some (.cells #[.func (.func 98) #[] #[],bv,.bool s] 108 (0,0)))(hb:qe 0 w.heap.size w bv Z)(hx:qe 0 w.heap.size w xv x) :
  qaD Tryp.prog 103 #[.pointer (some ⟨L,0,none⟩),xv] w λe w'=>e=.returned (.tuple #[])/\TakeR L s bv xv Z x w w':=by
 obtain⟨bb,bc,rfl,-,-⟩:=hb.cell;obtain⟨xb,xc,rfl,-,-⟩:=hx.cell;have c0:w.cell? ⟨L,0,none⟩=some (.func (.func 98) #[] #[]):=qa hL rfl;have c1:w.cell? ⟨L,1,none⟩=some (.slice bb Z.length bc):=qa hL rfl;have c2:w.cell? ⟨L,2,none⟩=some (.bool s):=qa hL rfl;have z1:w.frozen? ⟨L,1,none⟩=false:=qn hL;have z2:w.frozen? ⟨L,2,none⟩=false:=qn hL;have HL:=q1D hL;have HB:=q1D hb;have HX:=q1D hx;have SC:=q1D (q8D c0 (q8D c1 c2));clear hL hb hx;go_enter Tryp.func103,Tryz.ntmps103;cases s with
 | false =>
  go_wp2_with (fail);go_quiet (fail);go_wp2;go_end0;refine⟨rfl,((qi _ _ _).trans (qg _ _ _ _)).trans (qg _ _ _ _),?_⟩;rw[if_neg (by simp ),qh (show((w.drewN nq).setCell ⟨L,1,none⟩ (.slice xb x.length xc)).heap[L]?=some (.cells #[.func (.func 98) #[] #[],.slice xb x.length xc,.bool false] 108 (0,0)) by rw[qh (show(w.drewN nq).heap[L]?=_ from HL.out)];rfl)];rfl
 | true =>
  cases hl:jt x Z with
  | true =>
   have a6:=q1D hl;clear hl;go_wp2_with (fail);go_quiet (first | (go_at_call 98;refine qc4 ((q0a 0 w.heap.size 0 w.heap.size _ _ x Z _ (HX.out.kept (qi _ _ none) (by simp)) (HB.out.kept (qi _ _ none) (by simp))).mono (λe w5 h=>⟨by rw[h.1,a6.out],h.2.symm⟩))));go_wp2;go_end0;refine⟨rfl,((qi _ _ _).trans (qg _ _ _ _)).trans (qg _ _ _ _),?_⟩;rw[if_neg (by simp[a6.out]),qh (show((w.drewN nq).setCell ⟨L,1,none⟩ (.slice xb x.length xc)).heap[L]?=some (.cells #[.func (.func 98) #[] #[],.slice xb x.length xc,.bool true] 108 (0,0)) by rw[qh (show(w.drewN nq).heap[L]?=_ from HL.out)];rfl)];rfl
  | false =>
   have a6:=q1D hl;clear hl;go_wp2_with (fail);go_quiet (first | (go_at_call 98;refine qc4 ((q0a 0 w.heap.size 0 w.heap.size _ _ x Z _ (HX.out.kept (qi _ _ none) (by simp)) (HB.out.kept (qi _ _ none) (by simp))).mono (λe w5 h=>⟨by rw[h.1,a6.out],h.2.symm⟩))));go_wp2;go_end0;refine⟨rfl,(qi _ _ _),?_⟩;rw[if_pos ⟨rfl,a6.out⟩];exact HL.out
end Go.Proofs.YtidgnkmjgioapaaGreat
end
section
namespace Go.Proofs.YtidgnkmjgioapaaGreat
open Go Go.RowKit
def A5(l:List Int):q58:=.agg (l.map (q9q .i64)).toArray
theorem Tryp.und118:Tryp.prog.underlying 118=some (.array 5 3):=by rw[Tryp.und];exact Tryz.underlying118
theorem Tryp.und120:Tryp.prog.underlying 120=some (.map 118 3):=by rw[Tryp.und];exact Tryz.underlying120
theorem Tryp.und3q:Tryp.prog.underlying 3=some (.int .i64):=by rw[Tryp.und];exact Tryz.underlying3
theorem part3(l:List Int)(i:Nat)(x:Int)(h:l[i]?=some x)(w:q3g):(part 3 (l.map (q9q .i64)).toArray i).run Tryp.prog w=.ok (.int .i64 x) w :=
 run_part_plain w (by kernel_rfl) (by simp[h])
theorem qaq(x y:Int)(s t:List Int):decide (x::s=y::t)=((x == y) && decide (s=t)):=by
 by_cases e:x=y<;>simp[e]
theorem q3u(a b:List Int)(hl:a.length=b.length)(w:q3g):∀(m k:Nat),k+m=a.length->(Op.eqItems 9999 3 1 (a.map (q9q .i64)).toArray (b.map (q9q .i64)).toArray (List.range' k m)).run Tryp.prog w=.ok (decide (a.drop k=b.drop k)) w
 | 0,k,h=>by
  rw[qdf (by omega),qdf (by omega)];simp[Op.eqItems]
 | m+1,k,h=>by
  have ih:=q3u a b hl w m (k+1) (by omega);have ha:a[k]?=some a[k]:=q7C (by omega);have hb:b[k]?=some b[k]:=q7C (by omega);rw[List.range'_succ];simp only[Op.eqItems,Nat.mul_one,qbB,part3 a k _ ha,part3 b k _ hb,qbC,run_equalIn_int w 9998 3 .i64 .i64 _ _ Tryp.und3q];have hd:decide (a.drop k=b.drop k)=((a[k] == b[k]) && decide (a.drop (k+1)=b.drop (k+1))):=by
   rw[qcq (show k<a.length by omega),qcq (show k<b.length by omega)];exact qaq _ _ _ _
  rw[hd];cases(a[k] == b[k])
  ·simp
  ·simpa using ih
theorem eqA5(a b:List Int)(ha:a.length=5)(hb:b.length=5)(w:q3g):(Op.equalIn 10000 118 (A5 a) (A5 b)).run Tryp.prog w=.ok (decide (a=b)) w:=by
 obtain⟨i,hi⟩:∃i,Tryp.prog.info? 3=some i:=⟨_,(qch Tryp.info3p).choose_spec.1⟩
 have hc:Tryp.prog.cellsOf 3=1:=by kernel_rfl
 unfold A5;rw[show(10000:Nat)=9999+1 from rfl,run_equalIn_array w 9999 _ _ Tryp.und118 hi,hc,List.range_eq_range',q3u a b (by omega) w 5 0 (by omega)];rfl
theorem findA5(a:List Int)(ha:a.length=5)(w:q3g):∀(es:List qdm) (K:List (List Int)) (i:Nat),es.map (·.key)=K.map A5->(∀k∈K,k.length=5)->(∀e∈es,∃v:Int,e.val=.int .i64 v) ->
  ∃r,(Instr.findAsking 118 (A5 a) es i).run Tryp.prog w=.ok r w/\(a∈K->∃j v,r=some (j,.int .i64 v))/\(a∉K->r=none)
 | [],K,i,h,_,_=>by
  have:K=[]:=by simpa using h.symm
  subst this;exact⟨none,by simp[Instr.findAsking],by simp,by simp⟩
 | e::es,[],i,h,_,_=>by simp at h
 | e::es,k::K,i,h,h5,hv=>by
  simp only[List.map_cons,qd1] at h;have he:=eqA5 a k ha (h5 k (by simp)) w;have hq:(Op.equal 118 (A5 a) e.key).run Tryp.prog w=.ok (decide (a=k)) w:=by rw[h.1];exact he
  by_cases hk:a=k
  ·subst hk
   obtain⟨v,Z⟩:=hv e (by simp);refine⟨some (i,e.val),?_,λ_=>⟨i,v,by rw[Z]⟩,λhn=>absurd (by simp) hn⟩;simp only[Instr.findAsking,qbB,hq,qbC,decide_true,if_true,Sem.run_pure]
  ·obtain⟨r,h1,h2,h3⟩:=findA5 a ha w es K (i+1) h.2 (λx hx=>h5 x (by simp[hx])) (λx hx=>hv x (by simp[hx]))
   refine⟨r,?_,λhm=>h2 ((qbx.1 hm).resolve_left hk),λhn=>h3 λhm=>hn (by simp[hm])⟩;simp only[Instr.findAsking,qbB,hq,qbC];simpa[hk] using h1
theorem findc(a b:Array q58)(v:q58)(n:Nat)(es:List qdm)(w:q3g):(Instr.findKey 118 (.agg a) (⟨.agg b,v,n⟩::es)).run Tryp.prog w=(Instr.findAsking 118 (.agg a) (⟨.agg b,v,n⟩::es)).run Tryp.prog w:=by kernel_rfl
theorem q3o(a:List Int)(ha:a.length=5)(w:q3g)(es:List qdm)(K:List (List Int))(h:es.map (·.key)=K.map A5)(h5:∀k∈K,k.length=5)(hv:∀e∈es,∃v:Int,e.val=.int .i64 v) :
  ∃r,(Instr.findKey 118 (A5 a) es).run Tryp.prog w=.ok r w/\(a∈K->∃j v,r=some (j,.int .i64 v))/\(a∉K->r=none):=by
 cases es with
 | nil =>
  have:K=[]:=by simpa using h.symm
  subst this;exact⟨none,by unfold A5;kernel_rfl,by simp,by simp⟩
 | cons e es =>
  obtain⟨k,K',rfl⟩:∃k K',K=k::K':=by
   cases K with
   | nil=>simp at h
   | cons k K'=>exact⟨k,K',rfl⟩
  obtain⟨r,h1,h2⟩:=findA5 a ha w (e::es) (k::K') 0 h h5 hv;refine⟨r,?_,h2⟩;obtain⟨ek,ev,eb⟩:=e;have hk:ek=A5 k:=by simpa using(List.cons.inj h).1
  subst hk;exact(findc _ _ ev eb es w).trans h1
theorem q5j(b:Bool)(a:List Int)(ha:a.length=5)(w:q3g):(qdx b 10000 118 (A5 a)).run Tryp.prog w=.ok () w:=by
 obtain⟨a0,a1,a2,a3,a4,rfl⟩:∃a0 a1 a2 a3 a4,a=[a0,a1,a2,a3,a4]:=by
  rcases a with _ | ⟨a0,_ | ⟨a1,_ | ⟨a2,_ | ⟨a3,_ | ⟨a4,_ | ⟨a5,t⟩⟩⟩⟩⟩⟩<;>simp at ha;exact⟨a0,a1,a2,a3,a4,rfl⟩
 show(qdx b 10000 118 (.agg #[.int .i64 a0,.int .i64 a1,.int .i64 a2,.int .i64 a3,.int .i64 a4])).run Tryp.prog w=.ok () w;kernel_rfl
def zL(w:q3g)(r:Nat)(K:List (List Int)):Prop :=
 ∃es clock,w.heap[r]?=some (.map es clock)/\es.toList.map (·.key)=K.map A5/\(∀k∈K,k.length=5)/\∀e∈es.toList,∃v:Int,e.val=.int .i64 v
theorem zL.look{w:q3g}{r:Nat}{K:List (List Int)}(h:zL w r K)(a:List Int)(ha:a.length=5):∃v:Int,(Instr.lookup 120 (.map (some r)) (A5 a) true).run Tryp.prog w=.ok (.tuple #[.int .i64 v,.bool (decide (a∈K))]) w:=by
 obtain⟨es,clock,h1,h2,h3,h4⟩:=h;obtain⟨q,k1,k2,k3⟩:=q3o a ha w es.toList K h2 h3 h4;have hz:∀w,(zeroValue 3).run Tryp.prog w=.ok (.int .i64 0) w:=λw=>by kernel_rfl
 by_cases hm:a∈K
 ·obtain⟨j,v,rfl⟩:=k2 hm
  refine⟨v,?_⟩;simp[Instr.lookup,qbB,run_underlying Tryp.und120,getObj,qbk,h1,Result.andThen,q5j _ a ha,k1,hm]
 ·obtain rfl:=k3 hm
  refine⟨0,?_⟩;simp[Instr.lookup,qbB,run_underlying Tryp.und120,getObj,qbk,h1,Result.andThen,q5j _ a ha,k1,hm,hz]
theorem zL.add{w:q3g}{r:Nat}{K:List (List Int)}(h:zL w r K)(a:List Int)(ha:a.length=5)(hn:a∉K)(v:Int):∃o,(∀m t,o≠.cells m t (0,0))/\(qbE 120 (.map (some r)) (A5 a) (.int .i64 v)).run Tryp.prog w=.ok () (w.putObj r o)/\∀w',w'.heap[r]?=some o->zL w' r (K++[a]):=by
 obtain⟨es,clock,h1,h2,h3,h4⟩:=h;obtain⟨q,k1,k2,k3⟩:=q3o a ha w es.toList K h2 h3 h4;obtain rfl:=k3 hn;refine⟨.map (es.push ⟨A5 a,.int .i64 v,clock⟩) (clock+1),(λm t e=>(by cases e)),?_,λw' hw=>⟨_,_,hw,by simp[h2],λk hk=>?_,λe he=>?_⟩⟩
 ·simp[qbE,qbB,run_underlying Tryp.und120,getObj,setObj,qbk,h1,Result.andThen,q5j _ a ha,k1,World.putObj]
 ·rcases qcz.1 hk with h | h
  ·exact h3 k h
  ·rw[List.mem_singleton.1 h];exact ha
 ·rw[Array.toList_push] at he
  rcases qcz.1 he with h | h
  ·exact h4 e h
  ·rw[List.mem_singleton.1 h];exact⟨v,rfl⟩
theorem zL.nil{w:q3g}{r:Nat}(h:w.heap[r]?=some (.map #[] 0)):zL w r []:=⟨_,_,h,rfl,by simp,by simp⟩
theorem zL.kept{w w':q3g}{r:Nat}{K:List (List Int)}(h:zL w r K)(e:w'.heap[r]?=w.heap[r]?):zL w' r K:=by
 obtain⟨es,clock,h1,h2⟩:=h;exact⟨es,clock,e.trans h1,h2⟩
end Go.Proofs.YtidgnkmjgioapaaGreat
end
section
namespace Go.Proofs.YtidgnkmjgioapaaGreat
open Go.RowKit
def Zx(n1:Nat)(G:Nat->Prop)(W:q3g)(v:q58)(l:List Int):Prop:=qe n1 W.heap.size W v l/\∀B o n c,v=.slice (some ⟨B,o,none⟩) n c->l≠[]->¬ G B
theorem Zx.bod{n1:Nat}{G G':Nat->Prop}{A C:q3g}{v:q58}{l:List Int}(h:Zx n1 G A v l)(hb:Bod n1 n1 G G' A C):Zx n1 G' C v l:=by
 obtain⟨⟨base,cap,rfl,hl,hr⟩,hf⟩:=h;refine⟨⟨base,cap,rfl,hl,λhne=>?_⟩,λB o n c e hne hg=>?_⟩
 ·obtain⟨B,o,cs,fr,e1,e2,e3,e4,e5⟩:=hr hne
  exact⟨B,o,cs,fr,e1,e2,q8m e3 hb.size,(hb.keep B e3 (.inl e2) (hf B o _ _ (by rw[e1]) hne)).trans e4,e5⟩
 ·obtain⟨B',o',cs,fr,e1,e2,e3,e4,e5⟩:=hr hne
  rw[e1] at e;cases e;exact(hb.fp _ hg).elim (hf _ _ _ _ (by rw[e1]) hne) (by omega)
theorem jP{n1 B:Nat}{G:Nat->Prop}{A C:q3g}(hg:A.grownBy C none):Bod n1 B G G A C:=⟨hg.tape,hg.size,λk hk _ _=>hg.block k hk (by simp),λ_ h=>.inl h⟩
structure Jn(n1 E Lv Gp:Nat)(lb:Option qb9)(lc:Nat)(ws:List Int)(fE:qbe)(jp:Array q58)(G:Nat->Prop)(W:q3g):Prop where
 en:W.heap[E]?=some (.cells #[.func (.func fE) #[] jp] 51 (0,0))
 ls:W.heap[Lv]?=some (.cells #[.slice lb ws.length lc] 29 (0,0))
 li:Zx n1 G W (.slice lb ws.length lc) ws
 gr:W.heap[Gp]?=some (.cells #[.func (.func 136) #[] #[.pointer (some ⟨E,0,none⟩),.pointer (some ⟨Lv,0,none⟩),.pointer (some ⟨Gp,0,none⟩)]] 151 (0,0))
 ge:n1<=E/\n1<=Lv/\n1<=Gp
 nf:¬ G E/\¬ G Lv/\¬ G Gp
section
variable{n1 E Lv Gp:Nat}{lb:Option qb9}{lc:Nat}{ws:List Int}{fE:qbe}{jp:Array q58}{G G':Nat->Prop}{A C:q3g}
theorem Jn.bod(h:Jn n1 E Lv Gp lb lc ws fE jp G A)(hb:Bod n1 n1 G G' A C):Jn n1 E Lv Gp lb lc ws fE jp G' C:=by
 have e1:=(q45.1 h.en).1;have e2:=(q45.1 h.ls).1;have e3:=(q45.1 h.gr).1;exact⟨(hb.keep E e1 (.inl h.ge.1) h.nf.1).trans h.en,(hb.keep Lv e2 (.inl h.ge.2.1) h.nf.2.1).trans h.ls,h.li.bod hb,(hb.keep Gp e3 (.inl h.ge.2.2) h.nf.2.2).trans h.gr,h.ge,
  λe=>(hb.fp _ e).elim h.nf.1 (by omega),λe=>(hb.fp _ e).elim h.nf.2.1 (by omega),λe=>(hb.fp _ e).elim h.nf.2.2 (by omega)⟩
end
def PfxS(ws:List Int)(done L:List (List Int)):Prop:=∃t,zN ws 0=done++(L++t)
structure Cb(n1:Nat)(ws:List Int)(fE:qbe)(jp:Array q58)(I:List (List Int)->(Nat->Prop)->q3g->Prop):Prop where
 hI:∀s G A C,I s G A->A.grownBy C none->I s G C
 hlt:∀s G A,I s G A->∀k,G k->k<A.heap.size
 en:∀a w,(callFunc fE a).run Tryp.prog w=.ok (.enter fE a) w
 cb:∀done G W v c,I done G W->qe 0 W.heap.size W v c->(c≠[]\/v=.slice none 0 0)->c.Sublist ws->PfxS ws done [c] ->
  qaD Tryp.prog fE (#[v]++jp) W λe W'=>e=.returned (.bool false)/\∃G',I (done++[c]) G' W'/\Bod n1 n1 G G' W W'
def GrA(n1:Nat)(I:List (List Int)->(Nat->Prop)->q3g->Prop)(L:List (List Int))(done:List (List Int))(G:Nat->Prop)(W:q3g)(e:Ending)(W':q3g):Prop :=
 e=.returned (.bool false)/\∃G',I (done++L) G' W'/\Bod n1 n1 G G' W W'
theorem grow0{n1 E Lv Gp:Nat}{lb:Option qb9}{lc:Nat}{ws:List Int}{fE:qbe}{jp:Array q58}{I:List (List Int)->(Nat->Prop)->q3g->Prop}(cb:Cb n1 ws fE jp I)
  {now:List Int} {from_:Nat} {nb:Option qb9} {nc:Nat} {W:q3g} {G:Nat->Prop} {done:List (List Int)} (Z:now.Sublist (ws.take from_)) (hS:Jn n1 E Lv Gp lb lc ws fE jp G W) (hN:Zx n1 G W (.slice nb now.length nc) now) (hne:now≠[]\/qbp nb now.length nc=.slice none 0 0) (a6:PfxS ws done (zI ws 0 now from_)) (h:I done G W) :
  qaD Tryp.prog 136 #[.slice nb now.length nc,.int .i64 from_,.int .i64 (0:Nat),.pointer (some ⟨E,0,none⟩),.pointer (some ⟨Lv,0,none⟩),.pointer (some ⟨Gp,0,none⟩)] W (GrA n1 I (zI ws 0 now from_) done G W):=by
 have c1:W.cell? ⟨E,0,none⟩=some (.func (.func fE) #[] jp):=qa hS.en rfl;have a9:=cb.en;have hc:=cb.cb done G W _ now h (hN.1.mono (qa8 _) (q5m _)) hne (Z.trans (List.take_sublist _ _)) a6;have HC:=q1D hc;clear hc hS hN h hne a6;go_enter Tryp.func136,Tryz.ntmps136;go_wp2_with (first | (refine(HC.out).mono ?_;rintro e w2 ⟨rfl,G2,a8,a7⟩));go_ret;exact⟨rfl,G2,a8,a7⟩
theorem xW(w:q3g)(Z old:Nat)(e:q8u):Z<=qdB w Z old e:=by
 unfold qdB;simp only[Question.cut];omega
theorem KY{w:q3g}{l:List Int}{zs:Array q58}(hl:l.length<=1000000)(cap:Nat) :
  qe w.heap.size (w.drew.alloc (.cells ((l.map (q9q .i64)).toArray++zs) 3)).heap.size (w.drew.alloc (.cells ((l.map (q9q .i64)).toArray++zs) 3)) (.slice (some ⟨w.heap.size,0,none⟩) l.length cap) l:=by
 have hh:(w.drew.alloc (.cells ((l.map (q9q .i64)).toArray++zs) 3)).heap[w.heap.size]?=some (.cells ((l.map (q9q .i64)).toArray++zs) 3 (0,0)):=q7j w.drew _;refine⟨_,cap,rfl,by omega,λ_=>⟨w.heap.size,0,_,_,rfl,q5m _,?_,hh,λi hi=>?_⟩⟩
 ·exact(q45.1 hh).1
 ·rw[q9m,Array.getElem?_append_left (by simpa using hi)]
  simp[q7C hi]
theorem q76{w:q3g}{nb:Option qb9}{nc B:Nat}{now:List Int}{x:Int}(ty:q8u)(hN:qe 0 w.heap.size w (.slice nb now.length nc) now)(hx:w.cell? ⟨B,0,none⟩=some (.int .i64 x))(hl:now.length<=1000) :
  ∃g cap w',(Builtin.append_ #[29,29] ty #[.slice nb now.length now.length,.slice (some ⟨B,0,none⟩) 1 1]).run Tryp.prog w=.ok (.slice (some ⟨g,0,none⟩) (now.length+1) cap) w'/\w.heap.size<=g/\w.grownBy w' none /\
   qe w.heap.size w'.heap.size w' (.slice (some ⟨g,0,none⟩) (now.length+1) cap) (now++[x])/\now.length+1<=cap:=by
 obtain⟨i0,b7,b6,a7,b0⟩:=qch Tryp.info3p;have a6:∀j v,([q9q .i64 x]:List q58)[j]?=some v->w.cell? ((⟨B,0,none⟩:qb9).add j)=some v:=λj v hj=>by
  have:j=0:=by have:=(q8w.1 hj).1;simp at this;omega
  subst this;simp at hj;subst hj;simpa[Addr.add] using hx
 have a9:(now++[x]).length=now.length+1:=by simp
 cases nb with
 | none =>
  have h0:now=[]:=by
   refine qbw λhne=>?_;obtain⟨base,cap,e,_,hr⟩:=hN;cases e;obtain⟨B,o,cs,fr,e1,_⟩:=hr hne;cases e1
  subst h0;have hr:=run_append_nil (P:=Tryp.prog) w 29 ty 3 i0 _ Tryp.und29' b7 b6 ⟨B,0,none⟩ 1 1 [q9q .i64 x] (by rw[a7];rfl) a6 (by omega) (by omega) (by rw[b0];omega);have:=KY (w:=w) (l:=[x]) (zs:=qck (q9q .i64 0).cells (qdB w 1 0 3 - 1)) (by simp) (qdB w 1 0 3);exact⟨_,_,_,hr,q5m _,(qc w none).trans (q34 _ _ none),this,xW _ _ _ _⟩
 | some b =>
  have a8:∀j v,(now.map (q9q .i64))[j]?=some v->w.cell? (b.add j)=some v:=λj v hj=>by
   have Z:j<now.length:=by simpa using(q8w.1 hj).1
   obtain⟨base,cap,e,_,hc⟩:=hN.cell;cases e;obtain⟨B',o,e1,_,_,_,h4⟩:=hc (by intro e;rw[e] at Z;simp at Z);cases e1;have h5:=h4 j Z;rw[List.getElem?_map,q7C Z] at hj;rw[q7C Z] at h5;cases hj;exact kF h5
  have hr:=run_append_grow (P:=Tryp.prog) w 29 ty 3 i0 _ Tryp.und29' b7 b6 b now.length now.length (now.map (q9q .i64)) (by rw[a7];simp) a8 ⟨B,0,none⟩ 1 1 [q9q .i64 x] (by rw[a7];rfl) a6 (by omega) (by omega) (growslice_fits (by omega) (by rw[b0];omega));have:=KY (w:=w) (l:=now++[x]) (zs:=qck (q9q .i64 0).cells (qdB w (now.length+1) now.length 3 - (now.length+1))) (by simp;omega) (qdB w (now.length+1) now.length 3);have e:(now.map (q9q .i64)).toArray++[q9q .i64 x].toArray=((now++[x]).map (q9q .i64)).toArray:=by simp
  rw[e] at hr;rw[a9] at this;exact⟨_,_,_,hr,q5m _,(qc w none).trans (q34 _ _ none),this,xW _ _ _ _⟩
theorem q4f{ops:Array qbz}{o:qbz}{a:Act}{w:q3g}{K:Act->q3g->Prop}{Q:Exit->Act->q3g->Prop}{E:Prop}(Z:qb0 o (yielded ops a.tmps)=true)(s x:qaH)(hop:o.op=.call { callee:=.builtin .append,args:=#[s,x],argTypes:=#[29,29] })
  {nb:Option qb9} {nc B:Nat} {now:List Int} {y:Int} (hs:a.eval s=.slice nb now.length now.length) (hx:a.eval x=.slice (some ⟨B,0,none⟩) 1 1) (hN:qe 0 w.heap.size w (.slice nb now.length nc) now) (hy:w.cell? ⟨B,0,none⟩=some (.int .i64 y)) (hl:now.length<=1000)
  (h:∀g cap w',w.heap.size<=g->w.grownBy w' none->qe w.heap.size w'.heap.size w' (.slice (some ⟨g,0,none⟩) (now.length+1) cap) (now++[y])->now.length+1<=cap->K (a.put o.dst (.slice (some ⟨g,0,none⟩) (now.length+1) cap)) w') :
  if qb0 o (yielded ops a.tmps)=true then Oper.wp Tryp.prog o a w K Q else E:=by
 rw[if_pos Z];obtain⟨g,cap,w',hr,h1,h2,h3,h4⟩:=q76 o.type hN hy hl;unfold Oper.wp execOp;simp only[hop,resolve,invoke,builtin,qbB,Sem.run_pure,qbC,List.map_toArray,List.map_cons,List.map_nil,hs,hx,hr];exact h g cap w' h1 h2 h3 h4
theorem growS{n1 E Lv Gp:Nat}{lb:Option qb9}{lc:Nat}{ws:List Int}{fE:qbe}{jp:Array q58}{I:List (List Int)->(Nat->Prop)->q3g->Prop}(cb:Cb n1 ws fE jp I)(k0:ws.length<=1000)(m:Nat)
  (ih:∀(now:List Int) (from_:Nat) (nb:Option qb9) (nc:Nat) (W:q3g) (G:Nat->Prop) (done:List (List Int)),m+now.length<=ws.length->from_<=1001->now.Sublist (ws.take from_)->Jn n1 E Lv Gp lb lc ws fE jp G W->Zx n1 G W (.slice nb now.length nc) now->(now≠[]\/qbp nb now.length nc=.slice none 0 0)->now.length<=nc->PfxS ws done (zI ws m now from_)->I done G W ->
   qaD Tryp.prog 136 #[.slice nb now.length nc,.int .i64 from_,.int .i64 m,.pointer (some ⟨E,0,none⟩),.pointer (some ⟨Lv,0,none⟩),.pointer (some ⟨Gp,0,none⟩)] W (GrA n1 I (zI ws m now from_) done G W))
  (now:List Int) (from_:Nat) (nb:Option qb9) (nc:Nat) (W:q3g) (G:Nat->Prop) (done:List (List Int)) (k8:m+1+now.length<=ws.length) (e6:from_<=1001) (a9:now.Sublist (ws.take from_)) (hS:Jn n1 E Lv Gp lb lc ws fE jp G W) (hN:Zx n1 G W (.slice nb now.length nc) now) (hne:now≠[]\/qbp nb now.length nc=.slice none 0 0) (hnc:now.length<=nc) (b9:PfxS ws done (zI ws (m+1) now from_)) (h:I done G W) :
  qaD Tryp.prog 136 #[.slice nb now.length nc,.int .i64 from_,.int .i64 ((m:Int)+1),.pointer (some ⟨E,0,none⟩),.pointer (some ⟨Lv,0,none⟩),.pointer (some ⟨Gp,0,none⟩)] W (GrA n1 I (zI ws (m+1) now from_) done G W):=by
 have k9:((m:Int)+1 == 0)=false:=by
  rw[beq_eq_false_iff_ne];omega
 have h8:=q1D ih;have HS:=q1D hS;have HN:=q1D hN;have HH:=q1D h;have d7:=q1D a9;have g8:=q1D b9;clear b9;have k5:IntKind.i64.wrap (m:Int)=(m:Int):=qa7 _ (by omega);clear ih hS hN h hne a9;go_enter Tryp.func136,Tryz.ntmps136;go_wp2;go_loopw [10] (λiv wr=>∃i:Nat,iv=.int .i64 i/\from_<=i/\i<=1001/\∃Gk L,zI ws (m+1) now from_=L++zI ws (m+1) now i/\I (done++L) Gk wr/\Bod n1 n1 G Gk W wr) (λiv _=>(1002 - qb2 iv).toNat)
 case atStart=>exact⟨from_,rfl,q5m _,e6,G,[],rfl,by simpa using HH.out,jP (q8j _ _)⟩
 case round =>
  obtain⟨i,rfl,e7,l4,Gk,L,hL,d5,a8⟩:=hrel;have a6:=q1D (HS.out.bod a8);have g9:=q1D (HN.out.bod a8);have HL:=q1D hL;have b8:=q1D d5;have d9:=q1D a8;clear hL d5 a8;have c1:wr.cell? ⟨Lv,0,none⟩=some (.slice lb ws.length lc):=qa a6.out.ls rfl;by_cases hlt:i<ws.length
  ·have h9:(i:Int)<(ws.length:Int):=by omega
   obtain⟨x,b0⟩:∃x,ws[i]?=some x:=⟨_,q7C hlt⟩
   obtain⟨b1,l8,he,-,hc⟩:=a6.out.li.1.cell;cases he;obtain⟨LB,lo,rfl,l7,l6,l5,d6⟩:=hc (by intro e;rw[e] at hlt;simp at hlt);have hx:=d6 i hlt;rw[b0] at hx;simp only[q88] at hx;have d0:wr.cell? ⟨Gp,0,none⟩=some (.func (.func 136) #[] #[.pointer (some ⟨E,0,none⟩),.pointer (some ⟨Lv,0,none⟩),.pointer (some ⟨Gp,0,none⟩)]):=qa a6.out.gr rfl;have d1:=c1;have d2:=hx;have k6:IntKind.i64.wrap ((i:Int)+1)=((i+1:Nat):Int):=by rw[qa7 _ (by omega)];rfl
   have hni:0<=(i:Int):=by omega
   have k7:(now.length:Int)<=(nc:Int):=by omega
   have b7:=q1D b0;clear hc d6 hx b0;go_upto_region 6 with(fail)
   refine qR 17 (λw'=>w'.cell? ⟨Gp,0,none⟩=some (.func (.func 136) #[] #[.pointer (some ⟨E,0,none⟩),.pointer (some ⟨Lv,0,none⟩),.pointer (some ⟨Gp,0,none⟩)])/\w'.cell? ⟨Lv,0,none⟩=some (.slice (some ⟨LB,lo,none⟩) ws.length lc)/\w'.cell? ⟨LB,lo+i,none⟩=some (.int .i64 x)) (by kernel_rfl) (by kernel_rfl) ⟨d0,d1,d2⟩ (λZ=>?_);simp only[q8l,q9k,q9F,qbA,q9m,qao,qat,qbd,qae,q9y];refine tk 0 ?_;try go_frame
   refine tk 1 ?_;try go_frame
   refine tk 2 ?_;try go_frame
   refine tk 3 ?_;try go_frame
   refine tk 4 ?_;try go_frame
   refine tk 5 ?_;try go_frame
   refine tk 6 ?_;try go_frame
   refine tk 7 ?_;try go_frame
   refine tk 8 ?_;try go_frame
   refine tk 9 ?_;try go_frame
   refine tk 10 ?_;try go_frame
   refine tk 13 ?_;try go_frame
   refine tk 14 ?_;try go_frame
   refine tk 15 ?_;try go_frame
   refine tk 16 ?_;try go_frame
   refine rdy [11] ?_;refine cns 11 (λK hK=>?_) ?_
   ·skip
    go_simp;refine hK.out _ _ (by first | exact s5 | exact Z | exact⟨(q34 _ _ none).cell Z.1 (by simp),(q34 _ _ none).cell Z.2.1 (by simp),(q34 _ _ none).cell Z.2.2 (by simp)⟩) (λZ=>?_);clear hK K;try go_frame
    refine rdy [12] ?_;refine cns 12 (λK hK=>?_) ?_
    ·skip
     refine q4f rfl (.tmp 29) (.tmp 34) rfl (nc:=nc) (B:=wr.heap.size) (y:=x) (by rfl) (by rfl) (((g9.out.1.kept ((qc wr none).trans (q34 wr.drew (.cells #[.int .i64 x] 3) none)) (by simp)).mono (qa8 _) ((qc wr none).trans (q34 wr.drew (.cells #[.int .i64 x] 3) none)).size)) (jf wr.drew _ _ _) (by omega) (λg cap w' q1 q2 q3 q5=>?_);have a7:=q1D (((qc wr none).trans (q34 wr.drew (.cells #[.int .i64 x] 3) none)).trans q2);have g6:=q1D q3;have g7:=q1D q1;have g5:=q1D q5;have s5:=q8D (a7.out.cell d0 (by simp)) (q8D (a7.out.cell d1 (by simp)) (a7.out.cell d2 (by simp)));clear q1 q2 q3 q5;refine hK.out _ _ (by first | exact s5 | exact Z | exact⟨(q34 _ _ none).cell Z.1 (by simp),(q34 _ _ none).cell Z.2.1 (by simp),(q34 _ _ none).cell Z.2.2 (by simp)⟩) (λZ=>?_);clear hK K;try go_frame
     refine⟨by kernel_rfl,?_⟩;simp only[qbh,qbH];clear Z s5;have e5:n1<=wr.heap.size:=Nat.le_of_lt (Nat.lt_of_le_of_lt a6.out.ge.1 (q45.1 a6.out.en).1);have c3:(wr.drew.alloc (.cells #[.int .i64 x] 3)).heap.size=wr.heap.size+1:=by rw[q8f];rfl
     have e4:wr.heap.size<=g:=by have h1:=g7.out;have h2:((wr.alloc (.cells #[.int .i64 x] 3)).drew).heap.size=wr.heap.size+1:=(by rw[World.size_drew,q8f]);omega
     have hbg:=a6.out.bod (jP a7.out);have c9:=cb.hI _ _ _ _ b8.out a7.out;have c8:Zx n1 Gk w' (.slice (some ⟨g,0,none⟩) (now.length+1) cap) (now++[x]):=by
      refine⟨g6.out.mono (q87 e5 (Nat.le_of_lt (by rw[<- Nat.add_one_le_iff];exact Nat.le_of_eq c3.symm))) (q5m _),λB o n c e _ hg=>?_⟩;cases e;have:=cb.hlt _ _ _ b8.out _ hg;omega
     have b6:=h8.out (now++[x]) (i+1) (some ⟨g,0,none⟩) cap w' Gk (done++L) (by simp;omega) (by omega) (by
      rw[qbc,b7.out];exact List.Sublist.append (d7.out.trans (List.take_sublist_take_left e7)) (by simp)) hbg (by simpa using c8) (.inl (by simp)) (by simpa using g5.out) (by
      obtain⟨t,ht⟩:=g8.out;rw[HL.out,QR hlt,b7.out] at ht;exact⟨_,by rw[ht];simp only[qc1];rfl⟩) c9
     rw[qb3,List.length_singleton] at b6;have d8:=q1D b6;clear b6 c8 c9 hbg c3 e4;go_wp2_with (first | (go_at_call 136;refine(d8.out).mono ?_;rintro e w6 ⟨rfl,G6,e9,e8⟩));go_roundw
     case rel =>
      refine⟨i+1,by simp,by omega,by omega,G6,L++zI ws m (now++[x]) (i+1),?_,by rw[<- qc1];exact e9,d9.out.trans ((jP a7.out).trans e8)⟩;rw[HL.out,QR hlt,b7.out,qc1];rfl
     case measure=>simp[qb2];omega
    exact qm.nil
   exact qm.nil
  ·have hni:¬ (i:Int)<(ws.length:Int):=by omega
   go_wp2;go_ret;exact⟨rfl,Gk,by rw[HL.out,q0d (by omega),List.append_nil];exact b8.out,d9.out⟩
theorem growA{n1 E Lv Gp:Nat}{lb:Option qb9}{lc:Nat}{ws:List Int}{fE:qbe}{jp:Array q58}{I:List (List Int)->(Nat->Prop)->q3g->Prop}(cb:Cb n1 ws fE jp I)(Z:ws.length<=1000) :
  ∀(m:Nat) (now:List Int) (from_:Nat) (nb:Option qb9) (nc:Nat) (W:q3g) (G:Nat->Prop) (done:List (List Int)),m+now.length<=ws.length->from_<=1001->now.Sublist (ws.take from_)->Jn n1 E Lv Gp lb lc ws fE jp G W->Zx n1 G W (.slice nb now.length nc) now->(now≠[]\/qbp nb now.length nc=.slice none 0 0)->now.length<=nc->PfxS ws done (zI ws m now from_)->I done G W ->
   qaD Tryp.prog 136 #[.slice nb now.length nc,.int .i64 from_,.int .i64 m,.pointer (some ⟨E,0,none⟩),.pointer (some ⟨Lv,0,none⟩),.pointer (some ⟨Gp,0,none⟩)] W (GrA n1 I (zI ws m now from_) done G W)
 | 0,now,from_,nb,nc,W,G,done,_,_,h1,h2,h3,h4,_,h6,h5=>grow0 cb h1 h2 h3 h4 h6 h5
 | m+1,now,from_,nb,nc,W,G,done,h0,hf,h1,h2,h3,h4,h6,h7,h5=>by
  have:=growS cb Z m (growA cb Z m) now from_ nb nc W G done h0 hf h1 h2 h3 h4 h6 h7 h5
  rwa [show((m:Int)+1)=((m+1:Nat):Int) by omega] at this
end Go.Proofs.YtidgnkmjgioapaaGreat
end
section
namespace Go.Proofs.YtidgnkmjgioapaaGreat
open Go.RowKit Go.Shelf
attribute [local go_sem] Oper.semAt_some
def QG{α:Type}(f:Nat->α)(k:Nat):List α:=(qa4 k).map f
theorem Ku{α:Type}(f:Nat->α)(k:Nat):QG f (k+1)=QG f k++[f k]:=by simp[QG,List.range_succ]
theorem q1F{α:Type}(f:Nat->α)(k:Nat):(QG f k).length=k:=by simp[QG]
theorem q8d(zs:List Int):QG (λj=>zs[j]?.getD 0) zs.length=zs:=by
 apply List.ext_getElem
 ·simp[QG]
 ·intro i h1 h2
  simp[QG,h2]
theorem q6A(zs:List Int){k:Nat}(hk:k<=zs.length):QG (λj=>zs[j]?.getD 0) k=zs.take k:=by
 apply List.ext_getElem
 ·simp[QG,hk]
 ·intro i h1 h2
  have:i<zs.length:=by simp[QG] at h1;omega
  simp[QG,this]
theorem q49(F:Fence)(n:Nat)(h7:F.fn 165)(hro:F.round=none)(hn:1<=n)(l Bs n₀ b off len cap:Nat)(zs:List Int)(a8:len*8<=140737488351232)(hb:b<n₀)(J Jx:List Int->q3g->Prop)
  (hY:∀pre x W,J pre W->pre.length<len->YieldAt F (n - 1) Tryp.prog l #[.int .i64 x] W λe W' =>
   (e=.returned (.bool true)/\J (pre++[x]) W'/\Below n₀ W W')\/(e=.returned (.bool false)/\Jx (pre++[x]) W'))
  (W:q3g) (b8:W.cell? ⟨Bs,0,none⟩=some (.slice (some ⟨b,off,none⟩) len cap)) (hc:∀j,j<len->W.cell? ⟨b,off+j,none⟩=some (.int .i64 (zs[j]?.getD 0))) (h0:J [] W) :
  CallsIn F n Tryp.prog 165 #[.func (.yield l) #[] #[],.pointer (some ⟨Bs,0,none⟩)] W λe W'=>(∃v,e=.returned v) /\
   ((∃ys,ys=QG (λj=>zs[j]?.getD 0) len/\J ys W')\/(∃pre,(∃k,k<=len/\pre=QG (λj=>zs[j]?.getD 0) k)/\Jx pre W')):=by
 refine callsIn_of_wp Tryp.func165 rfl h7 ?_ hro;simp only[Tryz.ntmps165,qa0,q8l,q9k,q9F,qbA,qao,qat,qbd,qdi,qae,q9y]
 gi_wp2
 gi_loopw [7] (λi wr=>∃k:Nat,k<=len/\i=.int .i64 k/\J (QG (λj=>zs[j]?.getD 0) k) wr/\Below n₀ W wr)
  (λi _=>len - (qb2 i).toNat)
 case atStart=>exact⟨0,qa8 _,rfl,h0,Below.refl _ _⟩
 case round =>
  obtain⟨k,hk,rfl,a7,Z⟩:=hrel;have b0:k<len->wr.cell? ⟨b,off+k,none⟩=some (.int .i64 (zs[k]?.getD 0)):=λh=>(Z.cell (p:=⟨b,off+k,none⟩) hb).trans (hc k h);by_cases hlt:k<len
  ·obtain⟨fn,tmps,assign,body,hy,hR⟩:=hY _ (zs[k]?.getD 0) wr a7 (by rw[q1F];exact hlt)
   have b7:=b0 hlt
   gi_wp2
   refine hR.mono ?_;rintro e W3 (⟨rfl,b6,a9⟩ | ⟨rfl,a6⟩)
   ·gi_wp2
    go_roundw
    case rel=>exact⟨k+1,by omega,by simp,by rw[Ku];exact b6,Z.trans a9⟩
    case measure=>simp[qb2];omega
   ·gi_wp2
    refine qcG (results_none rfl _ _ _) rfl ?_;exact⟨⟨_,rfl⟩,.inr ⟨_,⟨k+1,by omega,(Ku _ _).symm⟩,a6⟩⟩
  ·obtain rfl:k=len:=by omega
   gi_wp2
   go_end0;exact⟨⟨_,rfl⟩,.inl ⟨_,rfl,a7⟩⟩
theorem q0x(F:Fence)(n:Nat)(h7:F.fn 165)(hro:F.round=none)(l Bs:Nat)(J:List Int->q3g->Prop)(W:q3g)(c:Option qb9)(k:Nat)(a6:W.cell? ⟨Bs,0,none⟩=some (.slice c 0 k))(h0:J [] W) :
  CallsIn F n Tryp.prog 165 #[.func (.yield l) #[] #[],.pointer (some ⟨Bs,0,none⟩)] W λe W'=>(∃v,e=.returned v)/\J [] W':=by
 refine callsIn_of_wp Tryp.func165 rfl h7 ?_ hro;simp only[Tryz.ntmps165,qa0,q8l,q9k,q9F,qbA,qao,qat,qbd,qdi,qae,q9y]
 gi_wp2
 gi_loopw [7] (λi wr=>i=.int .i64 0/\J [] wr) (λ_ _=>0)
 case atStart=>exact⟨rfl,h0⟩
 case round =>
  obtain⟨rfl,Z⟩:=hrel
  gi_wp2
  go_end0;exact⟨⟨_,rfl⟩,Z⟩
theorem q0w(F:Fence)(n:Nat)(h7:F.fn 165)(hro:F.round=none)(hn:1<=n)(Bs n₀:Nat)(sv:q58)(zs:List Int)(w:q3g)(a8:Bs<w.heap.size)(hn₀:n₀<=w.heap.size)
  (hc:w.cell? ⟨Bs,0,none⟩=some sv) (hI:qe 0 n₀ w sv zs) :
  SeqStopsK F n Tryp.prog 165 #[.pointer (some ⟨Bs,0,none⟩)] (λx:Int=>#[q9q .i64 x]) (Below n₀) (λys=>ys=zs) (λpre=>pre <+: zs) zs.length w:=λl J Jx W hW _ _ hY h0=>by
 have a6:=(hW.cell (p:=⟨Bs,0,none⟩) a8).trans hc;obtain⟨base,cap,rfl,a9,hcs⟩:=hI.cell;by_cases hz:zs=[]
 ·subst hz
  exact(q0x F n h7 hro l Bs J W base cap a6 h0).mono λe W' ⟨he,hj⟩=>⟨he,.inl ⟨_,rfl,hj⟩⟩
 ·obtain⟨B,o,rfl,-,hB,a7,hcell⟩:=hcs hz
  have Z:∀j,j<zs.length->W.cell? ⟨B,o+j,none⟩=some (.int .i64 (zs[j]?.getD 0)):=λj hj=>(hW.cell (p:=⟨B,o+j,none⟩) a7).trans (hcell j hj);refine(q49 F n h7 hro hn l Bs n₀ B o zs.length cap zs (by omega) hB J Jx hY W a6 Z h0).mono ?_;rintro e W' ⟨he,⟨ys,rfl,hj⟩ | ⟨pre,⟨k,hk,rfl⟩,hj⟩⟩
  ·exact⟨he,.inl ⟨_,q8d zs,hj⟩⟩
  ·exact⟨he,.inr ⟨_,by rw[q6A zs hk];exact List.take_prefix _ _,hj⟩⟩
theorem q1y(F:Fence)(n:Nat)(h3:F.fn 199)(h5:F.fn 165)(hro:F.round=none)(hn:3<=n)(Bs:Nat)(sv:q58)(xs:List Int)(w:q3g)(c9:Bs<w.heap.size)(hc:w.cell? ⟨Bs,0,none⟩=some sv)(hI:qe 0 w.heap.size w sv xs) :
  CallsIn F n Tryp.prog 199 #[.slice none 0 0,.func (.func 165) #[] #[.pointer (some ⟨Bs,0,none⟩)]] w λe W'=>∃v,e=.returned v/\W'.ownsRow w.heap.size 3 1 v xs.length (xs.map (q9q .i64))/\(v=.slice none 0 0↔xs=[])/\Below w.heap.size w W':=by
 have h1:1<=n:=by omega
 have d5:(xs.length:Int)<=1000000:=by obtain⟨_,_,_,h,_⟩:=hI;exact h
 obtain⟨i0,hi,b9,b8,b7⟩:=qch Tryp.info3p;refine callsIn_of_wp_marks Tryp.func199 rfl h3 ?_ hro;simp only[Tryz.ntmps199,qa0,q8l,q9k,q9F,qbA,qao,qat,qbd,qdi,qae,q9y]
 gi_wp2
 have bO:=Boxed.new w 29 (.slice none 0 0);have b6:Below w.heap.size w (w.alloc (.cells #[.slice none 0 0] 29)):=(Below.refl _ w).alloc (q5m _) _;refine wpIn_rangeFunc_ownG hro h1 (gf:=165) (lb:=#[.pointer (some ⟨Bs,0,none⟩)]) rfl h5 (enters_of Tryp.func165 (by kernel_rfl) rfl)
  (q0w F (n - 1) h5 hro (by omega) Bs w.heap.size sv xs _ (by simp;omega) (by simp) ((b6.cell (p:=⟨Bs,0,none⟩) c9).trans hc) (hI.alloc _)) belowK_t (belowK_b (by simp)) (Below.refl _ _) (λ_=>rfl)
  (λpre W=>(∃v,Boxed W w.heap.size 29 v/\W.ownsRow w.heap.size 3 1 v pre.length (pre.map (q9q .i64))/\(v=.slice none 0 0↔pre=[]))/\Below w.heap.size w W)
  (λ_ _ _=>False)
  (OwnFrom.and (Own.from (holdsRow_own w.heap.size w.heap.size 29 3 1 (λpre=>pre.length) (λpre=>pre.map (q9q .i64)) (λpre v=>v=.slice none 0 0↔pre=[])) _) (ownFrom_below (q5m _) (by simp)))
  (λ_ _ _ _ _ hs _ _=>hs)
  ⟨⟨_,bO,qcb _ _ _ _,by simp⟩,b6⟩
  (λx=>{ tmps:=#[.slice none 0 0,.func (.func 165) #[] #[.pointer (some ⟨Bs,0,none⟩)],.pointer (some ⟨w.heap.size,0,none⟩),q5s,.slice none 0 0,.int .i64 x,.func (.func 165) #[] #[.pointer (some ⟨Bs,0,none⟩)],.int .i64 x,q5s,q5s,q5s,q5s,q5s],defers:=[] }) ?assign ?body ?done ?stop
 case assign =>
  intro l x W K hK
  gi_wp2
  exact hK
 case body =>
  rintro l pre x W ⟨⟨v,hv,Z,a7⟩,hB⟩ hlt;have hc:=hv.cell
  gi_wp2_with (gi_at_builtin;refine wpListIn_append_own _ rfl _ _ 29 rfl w.heap.size 3 i0 (.int .i64 0) 1 8 Tryp.und29' hi b9 b8 b7 rfl (by decide) _ _ _ rfl (Z.alloc _) ⟨W.heap.size,0,none⟩ 1 1 [.int .i64 x] rfl rfl (cell_one_new _ _ _) (by simp[qbD]) (by simp[maxLen];omega) (by omega) (by have:=hB.size;simp;omega) ?_;intro v' w1 a6 a8 _;obtain⟨g',cap',rfl⟩:=ownsRow_succ a6;obtain⟨a9,hv2,c3,c8,b0⟩:=hv.appended (by decide) Z hB.size (q5m _) a6 a8;have d7:=a9.cell;have d6:=a9.frozen)
  exact⟨c8.from _,b0,⟨_,hv2,by simpa using c3,by simp⟩,hB.trans b0⟩
 case done =>
  rintro D ys W hD rfl ⟨⟨v,hv,Z,a7⟩,hB⟩ hK;have hc:=hv.cell
  gi_wp2
  refine⟨by simp,.inl ⟨_,_,rfl,run_takeDeferred hK,?_⟩⟩;exact⟨_,results_tmp rfl _ _ _,v,rfl,ownsRow_putObj Z _ hK rfl,a7,hB.trans (belowK_b (w:=w) (q5m _) W D _ _ (by simp at hD;omega) hK rfl rfl)⟩
 case stop =>
  rintro D c pre W _ _ h _;exact h.elim
theorem Ks(Bs:Nat)(sv:q58)(xs:List Int)(w:q3g)(Z:Bs<w.heap.size)(hc:w.cell? ⟨Bs,0,none⟩=some sv)(hI:qe 0 w.heap.size w sv xs) :
  qaD Tryp.prog 199 #[.slice none 0 0,.func (.func 165) #[] #[.pointer (some ⟨Bs,0,none⟩)]] w λe W'=>∃v,e=.returned v/\W'.ownsRow w.heap.size 3 1 v xs.length (xs.map (q9q .i64))/\(v=.slice none 0 0↔xs=[])/\Below w.heap.size w W' :=
 (qcx (n:=3)).1 (q1y Fence.wide 3 trivial trivial rfl (by omega) Bs sv xs w Z hc hI)
theorem vE{w w':q3g}(h:Below w.heap.size w w'):w.grownBy w' none:=⟨h.os,h.tape,h.output,h.size,λk hk _=>h.block k hk⟩
theorem q9s{n:Nat}{w:q3g}{v:q58}{l:List Int}(h:w.ownsRow n 3 1 v l.length (l.map (q9q .i64)))(hl:(l.length:Int)<=1000000):∃base B c,v=.slice base l.length c/\n<=B/\QC base B w l/\(v=.slice none 0 0\/base≠none):=by
 obtain⟨h1,⟨rfl,h0⟩ | ⟨g,cap,cur,rfl,hb,hg,hc,hm,hs,ht⟩⟩:=h
 ·exact⟨none,n,0,by rw[h0],q5m _,.inr (qbo h0),.inl rfl⟩
 ·refine⟨_,g,cap,rfl,hb,.inl ⟨rfl,cur,hg,λi hi=>?_⟩,.inr (by simp)⟩
  have h3:(cur.toList.take (l.length*1))[i]?=some (.int .i64 (l[i]?.getD 0)):=by
   rw[ht];simp[q7C hi]
  rw[List.getElem?_take] at h3;simpa[hi] using h3
theorem QC.ints{base:Option qb9}{B c n:Nat}{w:q3g}{L:List Int}(h:QC base B w L)(hn:n<=B)(hl:(L.length:Int)<=1000000):qe n w.heap.size w (.slice base L.length c) L:=by
 rcases h with⟨rfl,cs,h1,h2⟩ | rfl
 ·exact⟨_,c,rfl,hl,λ_=>⟨B,0,cs,(0,0),rfl,hn,(q45.1 h1).1,h1,λi hi=>by rw[q9m];exact h2 i hi⟩⟩
 ·exact⟨base,c,rfl,hl,λh=>absurd rfl h⟩
theorem q3C(Bs:Nat)(sv:q58)(xs:List Int)(w:q3g)(a6:Bs<w.heap.size)(hc:w.cell? ⟨Bs,0,none⟩=some sv)(hI:qe 0 w.heap.size w sv xs) :
  qaD Tryp.prog 163 #[.func (.func 165) #[] #[.pointer (some ⟨Bs,0,none⟩)]] w λe W'=>∃v,e=.returned v/\W'.ownsRow w.heap.size 3 1 v xs.length (xs.map (q9q .i64))/\(v=.slice none 0 0↔xs=[])/\w.grownBy W' none:=by
 go_enter Tryp.func163,Tryz.ntmps163;go_wp2_with (first | (go_at_call 199;refine(Ks Bs sv xs w a6 hc hI).mono ?_;rintro e w2 ⟨v,rfl,hown,Z,hb⟩));go_ret;exact⟨_,rfl,hown,Z,vE hb⟩
theorem q4x(Bs:Nat)(sv:q58)(xs:List Int)(w:q3g)(b0:Bs<w.heap.size)(hc:w.cell? ⟨Bs,0,none⟩=some sv)(hI:qe 0 w.heap.size w sv xs)(b6:xs.length<=12) :
  qaD Tryp.prog 134 #[.func (.func 165) #[] #[.pointer (some ⟨Bs,0,none⟩)]] w λe W'=>∃v,e=.returned v/\qe w.heap.size W'.heap.size W' v (jy xs.length xs)/\(v=.slice none 0 0↔jy xs.length xs=[])/\w.grownBy W' none:=by
 have a9:(xs.length:Int)<=1000000:=by omega
 go_enter Tryp.func134,Tryz.ntmps134;go_wp2_with (first
  | (go_at_call 163;refine(q3C Bs sv xs w b0 hc hI).mono ?_;rintro e w2 ⟨v,rfl,hown,Z,hg⟩;obtain⟨base,B,c,rfl,hB,a6,-⟩:=q9s hown a9;have b7:=q1D a6;have HN:=q1D Z;have HG:=q1D hg;clear hown a6 Z hg)
  | (go_at_call 164;refine(sortI base B c xs _ b7.out b6).mono ?_;rintro e w3 ⟨rfl,a8,a7⟩;have b9:=q1D a8;have b8:=q1D a7;clear a8 a7))
 go_ret;have h:=QC.ints (c:=c) b8.out hB (by rw[xf];omega);rw[xf] at h;refine⟨_,rfl,h,HN.out.trans ⟨λe=>by rw[e];rfl,λe=>?_⟩,HG.out.andThen b9.out (λj e=>by cases e;exact .inl hB)⟩;have:=xf xs.length xs;rw[e] at this;exact qbo this.symm
def Zv(l ws:List Int):Prop:=∀(Bs:Nat) (sv:q58) (w:q3g),Bs<w.heap.size->w.cell? ⟨Bs,0,none⟩=some sv->qe 0 w.heap.size w sv l ->
 qaD Tryp.prog 134 #[.func (.func 165) #[] #[.pointer (some ⟨Bs,0,none⟩)]] w λe W'=>∃v,e=.returned v/\qe w.heap.size W'.heap.size W' v ws/\(v=.slice none 0 0↔ws=[])/\w.grownBy W' none
theorem q72{l:List Int}(Z:l.length<=12):Zv l (jy l.length l):=λBs sv w h1 h2 h3=>q4x Bs sv l w h1 h2 h3 Z
theorem q71{l:List Int}(Z:l.length<=12)(hs:∀i,i+1<l.length->l[i]?.getD 0<=l[i+1]?.getD 0):Zv l l:=by
 have:=q72 Z
 rwa [YC hs _ (q5m _)] at this
end Go.Proofs.YtidgnkmjgioapaaGreat
end
section
namespace Go.Proofs.YtidgnkmjgioapaaGreat
open Go.RowKit
theorem xx{A C E:q3g}{r:Nat}(h:A.grownBy C none)(k:C.grownBy E (some r))(hr:A.heap.size<=r):A.grownBy E none:=h.andThen k (λj e=>by cases e;exact .inl hr)
theorem subA{ll ws:List Int}{b:Option qb9}{c:Nat}{fE:qbe}{jp:Array q58}{I:List (List Int)->(Nat->Prop)->q3g->Prop}{W:q3g}(cb:Cb W.heap.size ws fE jp I)(g7:ws.length<=1000)(hS:Zv ll ws)(hI:qe 0 W.heap.size W (.slice b ll.length c) ll){G:Nat->Prop}(h0:I [] G W) :
  qaD Tryp.prog 82 #[.slice b ll.length c,.func (.func fE) #[] jp] W λe W'=>e=.returned (.bool false)/\∃G',I (zN ws 0) G' W':=by
 obtain⟨Lv,Z⟩:∃Lv,Lv=W.heap.size:=⟨_,rfl⟩
 obtain⟨W1,a8⟩:∃W1,W1=(W.alloc (.cells #[.slice b ll.length c] 29)).alloc (.cells #[.func (.func fE) #[] jp] 51):=⟨_,rfl⟩
 have hg1:W.grownBy W1 none:=by rw[a8];exact(q34 _ _ none).trans (q34 _ _ none)
 have l1:W1.heap[Lv]?=some (.cells #[.slice b ll.length c] 29 (0,0)):=by rw[a8,Z];exact qp (q7j W _)
 have e1:W1.heap[Lv+1]?=some (.cells #[.func (.func fE) #[] jp] 51 (0,0)):=by
  rw[a8];have:=q7j (W.alloc (.cells #[.slice b ll.length c] 29)) (.cells #[.func (.func fE) #[] jp] 51);rw[q8f,<- Z] at this;exact this
 have d6:W1.heap.size=Lv+2:=by rw[a8,q8f,q8f,Z]
 have c1:W1.cell? ⟨Lv,0,none⟩=some (.slice b ll.length c):=qa l1 rfl;have z1:=qn (o:=0) l1;have d7:Lv<W1.heap.size:=by omega
 have k8:=q1D ((hI.kept hg1 (by simp)).mono (q5m _) hg1.size);have h8:=q1D a8;have b8:=q1D Z;have m5:=q1D d6;have l5:=q1D hg1;have k5:=q1D l1;have l7:=q1D e1;have HH:=q1D h0;clear a8 Z d6 hg1 l1 e1 hI h0;go_enter Tryp.func82,Tryz.ntmps82;go_upto_region 1 with(fail)
 rw[<- b8.out,show(W.alloc (.cells #[.slice b ll.length c] 29)).alloc (.cells #[.func (.func fE) #[] jp] 51)=W1 from h8.out.symm];go_upto_region 2 with(first
  | (go_at_call 135;refine(QF _ _ _ _).mono ?_;rintro e w2 ⟨rfl,rfl⟩)
  | (go_at_call 134;refine(hS W1.heap.size (.slice b ll.length c) _ (by simp) (by rw[jf];rfl) ((k8.out.alloc _).mono (q5m _) (by simp))).mono ?_;rintro e w2 ⟨v,rfl,c9,b9,hg2⟩;obtain⟨lb,lc,rfl,-,-⟩:=c9.cell;have c2:=(((q34 W1 (.cells #[.slice b ll.length c] 29) none).trans hg2).cell c1 (by simp));have z2:=(((q34 W1 (.cells #[.slice b ll.length c] 29) none).trans hg2).frozen_far _ d7 (by simp)).trans z1;have k7:=q1D c9;have d5:=q1D ((q34 W1 (.cells #[.slice b ll.length c] 29) none).trans hg2);have m6:=q1D b9;clear c9 b9 hg2))
 obtain⟨W4,b6⟩:∃W4,W4=w2.setCell ⟨Lv,0,none⟩ (.slice lb ws.length lc):=⟨_,rfl⟩
 rw[<- b6];have a6:=qg w2 Lv 0 (.slice lb ws.length lc);rw[<- b6] at a6;have l4:W4.heap[Lv]?=some (.cells #[.slice lb ws.length lc] 29 (0,0)):=by rw[b6,qh (blk d5.out (by simp) k5.out)];rfl
 have e4:=blk (X:=Lv+1) a6 (by simp) (blk d5.out (by simp) l7.out);have i4:=(k7.out.kept a6 (λR e=>by cases e;left;rw[q8f];omega)).mono (show W.heap.size<=_ by rw[q8f];have:=b8.out;omega) a6.size;have g4:W.grownBy W4 none:=xx (l5.out.trans d5.out) a6 (by rw[b8.out];exact q5m _);have k0:=q1D l4;have l6:=q1D e4;have g5:=q1D i4;have g6:=q1D g4;clear b6 a6 l4 e4 i4 g4 c1 z1 c2 z2;have m4:∀(a:qb9) (fn:Fn) (x y:Array q58) (m:Mode) (w:q3g),(store a (.func fn x y) m).run Tryp.prog w=stored Tryp.prog w a (.func fn x y) m:=λa fn x y m w=>run_store _ w a _ m rfl;go_upto_region 4 with(fail)
 obtain⟨Gp,b7⟩:∃Gp,Gp=W4.heap.size:=⟨_,rfl⟩
 obtain⟨W5,b0⟩:∃W5,W5=W4.alloc (.cells #[.func (.func 136) #[] #[.pointer (some ⟨Lv+1,0,none⟩),.pointer (some ⟨Lv,0,none⟩),.pointer (some ⟨Gp,0,none⟩)]] 151):=⟨_,rfl⟩
 rw[<- b7,<- b0];have a7:W4.grownBy W5 none:=by rw[b0];exact q34 _ _ none
 have p5:W5.heap[Gp]?=some (.cells #[.func (.func 136) #[] #[.pointer (some ⟨Lv+1,0,none⟩),.pointer (some ⟨Lv,0,none⟩),.pointer (some ⟨Gp,0,none⟩)]] 151 (0,0)):=by rw[b0,b7];exact q7j _ _
 have a9:∀k,W.heap.size<=k->¬ G k:=λk hk h=>by have:=cb.hlt _ _ _ HH.out k h;omega
 have Z:=b8.out;have e7:W.heap.size<=Gp:=by rw[b7];exact g6.out.size
 have c8:Jn W.heap.size (Lv+1) Lv Gp lb lc ws fE jp G W5:=by
  refine⟨blk a7 (by simp) l6.out,blk a7 (by simp) k0.out,⟨(g5.out.kept a7 (by simp)).mono (q5m _) a7.size,λB o n c' e hne hg=>?_⟩,p5,⟨by omega,by omega,e7⟩,a9 _ (by omega),a9 _ (by omega),a9 _ e7⟩;obtain⟨base,cap,e',hl,hr⟩:=g5.out;cases e';obtain⟨B',o',cs,fr,e1,e2,e3,e4,e5⟩:=hr hne;cases e;cases e1;exact a9 _ e2 hg
 have e6:=cb.hI _ _ _ _ HH.out (g6.out.trans a7);have h9:=q1D c8;have k6:=q1D e6;have hwl:IntKind.i64.wrap ((ws.length:Int)+1)=((ws.length+1:Nat):Int):=by rw[qa7 _ (by omega)];rfl
 have cL:W5.cell? ⟨Lv,0,none⟩=some (.slice lb ws.length lc):=qa c8.ls rfl;clear c8 e6 p5 a7 b0 b7 a9 Z;go_wp2;go_loopw [14] (λiv wr=>∃k:Nat,iv=.int .i64 k/\k<=ws.length+1/\∃Gk L,zN ws 0=L++zN ws k/\I L Gk wr/\Bod W.heap.size W.heap.size G Gk W5 wr) (λiv _=>(ws.length+1 - qb2 iv).toNat)
 case atStart=>exact⟨0,rfl,by omega,G,[],rfl,k6.out,jP (q8j _ _)⟩
 case round =>
  obtain⟨k,rfl,hk,Gk,L,hL,d9,c3⟩:=hrel;have e8:=q1D (h9.out.bod c3);have HL:=q1D hL;have e9:=q1D d9;have l8:=q1D c3;clear hL d9 c3 cL;have c1:wr.cell? ⟨Gp,0,none⟩=some (.func (.func 136) #[] #[.pointer (some ⟨Lv+1,0,none⟩),.pointer (some ⟨Lv,0,none⟩),.pointer (some ⟨Gp,0,none⟩)]):=qa e8.out.gr rfl;by_cases hlt:k<ws.length+1
  ·have l9:(k:Int)<(ws.length:Int)+1:=by omega
   have m3:IntKind.i64.wrap ((k:Int)+1)=((k+1:Nat):Int):=by rw[qa7 _ (by omega)];rfl
   have d8:=growA cb g7 k [] 0 none 0 wr Gk L (by simp;omega) (by omega) (by simp) e8.out ⟨qe.nil _ _ _,λB o n c e=>by cases e⟩ (.inr rfl) (by simp) ⟨_,by rw[HL.out,ZF hlt]⟩ e9.out;have k9:=q1D d8;clear d8;go_wp2_with (first | (go_at_call 136;refine(k9.out).mono ?_;rintro e w6 ⟨rfl,G6,g9,g8⟩));go_roundw
   case rel=>exact⟨k+1,by simp,by omega,G6,L++zI ws k [] 0,by rw[HL.out,ZF hlt,qc1],g9,l8.out.trans g8⟩
   case measure=>simp[qb2];omega
  ·obtain rfl:k=ws.length+1:=by omega
   go_wp2;go_ret;exact⟨rfl,Gk,by rw[HL.out,q2b (q5m _),List.append_nil];exact e9.out⟩
end Go.Proofs.YtidgnkmjgioapaaGreat
end
section
namespace Go.Proofs.YtidgnkmjgioapaaGreat
open Go.RowKit
def q0j(x b:List Int):Bool:=decide (zv x b<0)
theorem q0i(la ha lb hb:Nat)(va vb:q58)(a b:List Int)(w:q3g)(hA:qe la ha w va a)(hB:qe lb hb w vb b) :
  qaD Tryp.prog 99 #[va,vb] w λe w'=>e=.returned (.bool (q0j a b))/\w=w':=Jh la ha lb hb va vb a b w hA hB
def TakeE(L:Nat)(s:Bool)(bv xv:q58)(Z x:List Int)(w w':q3g):Prop :=
 w.grownBy w' (some L)/\w'.heap[L]?=some (.cells #[.func (.func 99) #[] #[],if s=true/\q0j x Z=false then bv else xv,.bool true] 108 (0,0))
theorem q6B(L:Nat)(s:Bool)(bv xv:q58)(Z x:List Int)(w:q3g)(hL:w.heap[L]?=some (.cells #[.func (.func 99) #[] #[],bv,.bool s] 108 (0,0)))(hb:qe 0 w.heap.size w bv Z)(hx:qe 0 w.heap.size w xv x) :
  qaD Tryp.prog 103 #[.pointer (some ⟨L,0,none⟩),xv] w λe w'=>e=.returned (.tuple #[])/\TakeE L s bv xv Z x w w':=by
 obtain⟨bb,bc,rfl,-,-⟩:=hb.cell;obtain⟨xb,xc,rfl,-,-⟩:=hx.cell;have c0:w.cell? ⟨L,0,none⟩=some (.func (.func 99) #[] #[]):=qa hL rfl;have c1:w.cell? ⟨L,1,none⟩=some (.slice bb Z.length bc):=qa hL rfl;have c2:w.cell? ⟨L,2,none⟩=some (.bool s):=qa hL rfl;have z1:w.frozen? ⟨L,1,none⟩=false:=qn hL;have z2:w.frozen? ⟨L,2,none⟩=false:=qn hL;have HL:=q1D hL;have HB:=q1D hb;have HX:=q1D hx;have SC:=q1D (q8D c0 (q8D c1 c2));clear hL hb hx;go_enter Tryp.func103,Tryz.ntmps103;cases s with
 | false =>
  go_wp2_with (fail);go_quiet (fail);go_wp2;go_end0;refine⟨rfl,((qi _ _ _).trans (qg _ _ _ _)).trans (qg _ _ _ _),?_⟩;rw[if_neg (by simp ),qh (show((w.drewN nq).setCell ⟨L,1,none⟩ (.slice xb x.length xc)).heap[L]?=some (.cells #[.func (.func 99) #[] #[],.slice xb x.length xc,.bool false] 108 (0,0)) by rw[qh (show(w.drewN nq).heap[L]?=_ from HL.out)];rfl)];rfl
 | true =>
  cases hl:q0j x Z with
  | true =>
   have a6:=q1D hl;clear hl;go_wp2_with (fail);go_quiet (first | (go_at_call 99;refine qc4 ((q0i 0 w.heap.size 0 w.heap.size _ _ x Z _ (HX.out.kept (qi _ _ none) (by simp)) (HB.out.kept (qi _ _ none) (by simp))).mono (λe w5 h=>⟨by rw[h.1,a6.out],h.2.symm⟩))));go_wp2;go_end0;refine⟨rfl,((qi _ _ _).trans (qg _ _ _ _)).trans (qg _ _ _ _),?_⟩;rw[if_neg (by simp[a6.out]),qh (show((w.drewN nq).setCell ⟨L,1,none⟩ (.slice xb x.length xc)).heap[L]?=some (.cells #[.func (.func 99) #[] #[],.slice xb x.length xc,.bool true] 108 (0,0)) by rw[qh (show(w.drewN nq).heap[L]?=_ from HL.out)];rfl)];rfl
  | false =>
   have a6:=q1D hl;clear hl;go_wp2_with (fail);go_quiet (first | (go_at_call 99;refine qc4 ((q0i 0 w.heap.size 0 w.heap.size _ _ x Z _ (HX.out.kept (qi _ _ none) (by simp)) (HB.out.kept (qi _ _ none) (by simp))).mono (λe w5 h=>⟨by rw[h.1,a6.out],h.2.symm⟩))));go_wp2;go_end0;refine⟨rfl,(qi _ _ _),?_⟩;rw[if_pos ⟨rfl,a6.out⟩];exact HL.out
def YE(l:List Int)(x:Int):Int:=if x∈l then((l.takeWhile λy=>y != x).length:Int) else -1
theorem tw_at{l:List Int}{x:Int}{k:Nat}(h:l[k]?=some x)(hb:∀i,i<k->l[i]?≠some x):(l.takeWhile λy=>y != x).length=k:=by
 induction l generalizing k with
 | nil=>simp at h
 | cons a t ih =>
  cases k with
  | zero=>simp at h;subst h;simp
  | succ k =>
   have ha:a≠x:=λe=>hb 0 (by omega) (by simp[e]);rw[qep (by simpa using ha),q8l,ih (by simpa using h) (λi hi e=>hb (i+1) (by omega) (by simpa using e))]
theorem qa3(b:Option qb9)(c:Nat)(l:List Int)(x:Int)(w:q3g)(b6:(l.length:Int)<=1000000)(hc:l≠[]->∃B o,b=some ⟨B,o,none⟩/\∀i,i<l.length->w.cell? ⟨B,o+i,none⟩=some (.int .i64 (l[i]?.getD 0))):qaD Tryp.prog 147 #[.slice b l.length c,.int .i64 x] w λe w'=>e=.returned (.int .i64 (YE l x))/\w=w':=by
 have HC:=q1D hc;clear hc;go_enter Tryp.func147,Tryz.ntmps147;go_wp2;go_loopw [8] (λiv wr=>∃k:Nat,iv=.int .i64 k/\k<=l.length/\(∀i,i<k->l[i]?≠some x)/\w=wr) (λiv _=>(l.length - qb2 iv).toNat)
 case atStart=>exact⟨0,rfl,by omega,λi hi=>by omega,rfl⟩
 case round =>
  obtain⟨k,rfl,hk,a6,rfl⟩:=hrel;have Z:=q1D a6;clear a6;by_cases hlt:k<l.length
  ·obtain⟨B,o,rfl,a7⟩:=HC.out (by intro e;rw[e] at hlt;simp at hlt)
   obtain⟨y,hy⟩:∃y,l[k]?=some y:=⟨_,q7C hlt⟩
   have x1:=a7 k hlt;rw[hy] at x1;simp only[q88] at x1;have a9:(k:Int)<(l.length:Int):=by omega
   have HY:=q1D hy;clear a7 hy;by_cases hxy:x=y
   ·subst hxy
    have hv:YE l x=(k:Int):=by
     unfold YE;rw[if_pos (q8z HY.out),tw_at HY.out Z.out]
    have HV:=q1D hv;clear hv;go_wp2;go_ret;exact⟨by rw[HV.out];rfl,by first | rfl | trivial⟩
   ·have b0:(x == y)=false:=by simpa using hxy
    have a8:=q1D hxy;clear hxy;go_wp2;go_roundw
    case rel =>
     refine⟨k+1,by simp,by omega,λi hi e=>?_,by first | rfl | trivial⟩;by_cases h:i=k
     ·subst h
      rw[HY.out] at e;cases e;exact a8.out rfl
     ·exact Z.out i (by omega) e
    case measure=>simp[qb2];omega
  ·obtain rfl:k=l.length:=by omega
   have hv:YE l x=-1:=by
    unfold YE;rw[if_neg];intro hm;obtain⟨i,hi⟩:=List.getElem?_of_mem hm;exact Z.out i (q8w.1 hi).1 hi
   have HV:=q1D hv;clear hv;go_wp2;go_ret;exact⟨by rw[HV.out];rfl,by first | rfl | trivial⟩
attribute [local go_sem] q5e q1j
theorem qas(B o cap:Nat)(ty:q8u)(cs:Array q58)(fr:Nat × Nat)(l:List Int)(w:q3g)(h3:w.heap[B]?=some (.cells cs ty fr))(h4:∀i,i<l.length->cs[o+i]?=some (.int .i64 (l[i]?.getD 0)))(h0:l≠[])(hl:l.length<=1000) :
  qaD Tryp.prog 84 #[.slice (some ⟨B,o,none⟩) l.length cap] w λe w'=>∃v',e=.returned v'/\w.grownBy w' none/\qe w.heap.size w'.heap.size w' v' l:=by
 obtain⟨i0,b7,b0,a9,a8⟩:=qch Tryp.info3p;have a7:0<l.length:=List.length_pos_iff.2 h0;have HN:=q1D (show ∀j u,(l.map (q9q .i64))[j]?=some u->cs[o+j]?=some u from λj u hu=>by
  rw[List.getElem?_map] at hu;cases hj:l[j]? with
  | none=>rw[hj] at hu;cases hu
  | some x =>
   rw[hj] at hu;cases hu;have b6:=(q8w.1 hj).1;have:=h4 j b6;rw[hj] at this;exact this)
 have HB:=q1D h3;clear h4 h3;go_enter Tryp.func84,Tryz.ntmps84;go_wp2_with (first
  | (at_builtin;go_must (refine wpList_append_lies _ (by rfl) _ _ _ (by rfl) w.heap.size 3 i0 _ 1 8 Tryp.und29' b7 b0 a9 a8 rfl (by omega) (.slice (some ⟨w.heap.size,0,none⟩) 0 0) 0 [] (by rfl) ⟨by simp,.inr ⟨w.heap.size,0,#[],rfl,by omega,q7j w _,by omega,by unfold maxLen;omega,by simp,by simp⟩⟩ ⟨B,o,none⟩ l.length cap (l.map (q9q .i64)) (by rfl) (by simp) (λj u hu=>kF (qa (qp HB.out) (HN.out j u hu))) (by intro u hu;simp at hu;obtain⟨x,_,rfl⟩:=hu;rfl) a7 (by unfold maxLen;omega) (by omega) (by simp) (w.heap.size+1) (by simp) ?_);intro gg b8 w5 Z a6 b9 hgl;have HG:=q1D a6;have HO:=q1D Z;clear a6 Z))
 go_ret;refine⟨_,rfl,(q34 _ _ none).andThen HG.out (λj e=>.inl ?_),q3e (n:=0+l.length) (by simpa using HO.out) (by omega) (q5m _)⟩;simp[qak] at e;omega
def z6(s:List Int):List Int:=s.takeWhile λy=>y != -1
theorem len5{s:List Int}(h:s.length=5):∃a b c d e,s=[a,b,c,d,e]:=by
 rcases s with _ | ⟨a0,_ | ⟨a1,_ | ⟨a2,_ | ⟨a3,_ | ⟨a4,_ | ⟨a5,t⟩⟩⟩⟩⟩⟩<;>simp at h;exact⟨a0,a1,a2,a3,a4,rfl⟩
theorem q5y(s:List Int)(p:Int->Bool):s.take (s.takeWhile p).length=s.takeWhile p:=by
 induction s with
 | nil=>rfl
 | cons a t ih =>
  by_cases h:p a=true
  ·rw[qep h,q8l,List.take_succ_cons,ih]
  ·rw[List.takeWhile_cons_of_neg h];rfl
theorem Kw(s:List Int)(p:Int->Bool):(s.takeWhile p).length<=s.length:=by
 rw[<- q5y s p,qcD];omega
theorem tw_all{s:List Int}{x:Int}(h:x∉s):s.takeWhile (λy=>y != x)=s:=by
 induction s with
 | nil=>rfl
 | cons a t ih =>
  rw[qep (by simp at h ⊢;exact λe=>h.1 e.symm),ih (by simp at h;exact h.2)]
theorem q9D(s:List Int)(h5:s.length=5)(hne:z6 s≠[])(w:q3g):qaD Tryp.prog 113 #[A5 s] w λe w'=>∃v,e=.returned v/\w.grownBy w' none/\qe w.heap.size w'.heap.size w' v (z6 s):=by
 obtain⟨Bx,b0⟩:∃Bx,Bx=w.heap.size:=⟨_,rfl⟩
 obtain⟨w1,Z⟩:∃w1,w1=w.alloc (.cells (s.map (q9q .i64)).toArray 118):=⟨_,rfl⟩
 have hg1:w.grownBy w1 none:=by rw[Z];exact q34 _ _ none
 have hb1:w1.heap[Bx]?=some (.cells (s.map (q9q .i64)).toArray 118 (0,0)):=by rw[Z,b0];exact q7j _ _
 have hcl:∀i,i<s.length->(s.map (q9q .i64)).toArray[i]?=some (.int .i64 (s[i]?.getD 0)):=λi hi=>by simp[hi]
 have b7:∀w2,w1.grownBy w2 none->qaD Tryp.prog 147 #[.slice (some ⟨Bx,0,none⟩) 5 5,.int .i64 (-1)] w2 λe w'=>e=.returned (.int .i64 (YE s (-1)))/\w2=w':=λw2 h=>by
  have:=qa3 (some ⟨Bx,0,none⟩) 5 s (-1) w2 (by omega) (λ_=>⟨Bx,0,rfl,λi hi=>qa (blk h (by simp) hb1) (by rw[q9m];exact hcl i hi)⟩)
  rwa [h5] at this
 obtain⟨n,hn⟩:∃n,n=(z6 s).length:=⟨_,rfl⟩
 have hns:n<=5:=by rw[hn];have:=Kw s (λy=>y != -1);unfold z6;omega
 have b8:∀w2,w1.grownBy w2 none->qaD Tryp.prog 84 #[.slice (some ⟨Bx,0,none⟩) n 5] w2 λe w'=>∃v',e=.returned v'/\w2.grownBy w' none/\qe w2.heap.size w'.heap.size w' v' (z6 s):=λw2 h=>by
  rw[hn];refine qas Bx 0 5 118 _ (0,0) (z6 s) w2 (blk h (by simp) hb1) (λi hi=>?_) hne (by omega);rw[q9m,hcl i (by omega)];unfold z6;rw[<- q5y s (λy=>y != -1),List.getElem?_take_of_lt (by unfold z6 at hi;exact hi)]
 have a7:(YE s (-1)=(n:Int)/\(-1:Int)∈s)\/(YE s (-1)=-1/\n=5):=by
  by_cases hm:(-1:Int)∈s
  ·left
   refine⟨?_,hm⟩;unfold YE;rw[if_pos hm,hn];rfl
  ·right
   refine⟨by unfold YE;rw[if_neg hm],?_⟩;rw[hn];unfold z6;rw[tw_all hm,h5]
 have b6:=q1D b7;have c3:=q1D b8;have a6:=q1D hg1;have b9:=q1D Z;have c8:=q1D b0;clear b7 b8 hg1 hb1 Z b0 hcl hn;generalize YE s (-1)=ix at a7 b6;have hA:A5 s=.agg (s.map (q9q .i64)).toArray:=rfl;rw[hA];clear hA;obtain⟨a0,a1,a2,a3,a4,rfl⟩:=len5 h5;rcases a7 with⟨rfl,-⟩ | ⟨rfl,rfl⟩
 ·go_enter Tryp.func113,Tryz.ntmps113
  go_upto_region 1 with(fail)
  rw[<- c8.out,show w.alloc (.cells #[.int .i64 a0,.int .i64 a1,.int .i64 a2,.int .i64 a3,.int .i64 a4] 118)=w1 from b9.out.symm];have hni:(0:Int)<=(n:Int):=by omega
  have c9:(n:Int)<=5:=by omega
  go_wp2_with (first
   | (go_at_call 147;refine(b6.out _ (q8j _ _)).mono ?_;rintro e w2 ⟨rfl,rfl⟩)
   | (go_at_call 84;refine(c3.out _ (q8j _ _)).mono ?_;rintro e w3 ⟨v,rfl,a8,a9⟩))
  go_ret;exact⟨_,rfl,a6.out.trans a8,a9.mono a6.out.size (q5m _)⟩
 ·go_enter Tryp.func113,Tryz.ntmps113
  go_upto_region 1 with(fail)
  rw[<- c8.out,show w.alloc (.cells #[.int .i64 a0,.int .i64 a1,.int .i64 a2,.int .i64 a3,.int .i64 a4] 118)=w1 from b9.out.symm];go_wp2_with (first
   | (go_at_call 147;refine(b6.out _ (q8j _ _)).mono ?_;rintro e w2 ⟨rfl,rfl⟩)
   | (go_at_call 84;refine(c3.out _ (q8j _ _)).mono ?_;rintro e w3 ⟨v,rfl,a8,a9⟩))
  go_ret;exact⟨_,rfl,a6.out.trans a8,a9.mono a6.out.size (q5m _)⟩
def zO(l:List Int):List Int:=l++List.replicate (5 - l.length) (-1)
theorem QI{l:List Int}(h:l.length<=5):(zO l).length=5:=by simp[zO];omega
theorem J0(lo hi:Nat)(v:q58)(l:List Int)(w:q3g)(hI:qe lo hi w v l)(hl:l.length<=5):qaD Tryp.prog 112 #[v] w λe w'=>e=.returned (A5 (zO l))/\w.grownBy w' none:=by
 obtain⟨b,c,rfl,e8,hc⟩:=hI.cell;have HC:=q1D hc;have hsz:(Tryp.prog.info? 3).map (·.size)=some 1:=by kernel_rfl
 obtain⟨R,hR⟩:∃R,R=w.heap.size:=⟨_,rfl⟩
 clear hc hI;go_enter Tryp.func112,Tryz.ntmps112;go_upto_region 2 with(fail)
 obtain⟨w1,a9⟩:∃w1,w1=w.alloc (.cells #[.int .i64 0,.int .i64 0,.int .i64 0,.int .i64 0,.int .i64 0] 118):=⟨_,rfl⟩
 obtain⟨w2,a8⟩:∃w2,w2=w1.alloc (.cells #[.int .i64 (-1),.int .i64 (-1),.int .i64 (-1),.int .i64 (-1),.int .i64 (-1)] 118):=⟨_,rfl⟩
 rw[<- hR,show(w.alloc (.cells #[.int .i64 0,.int .i64 0,.int .i64 0,.int .i64 0,.int .i64 0] 118)).alloc (.cells #[.int .i64 (-1),.int .i64 (-1),.int .i64 (-1),.int .i64 (-1),.int .i64 (-1)] 118)=w2 by rw[a8,a9]];have b8:w1.heap.size=R+1:=by rw[a9,q8f,hR]
 have c8:w2.heap.size=R+2:=by rw[a8,q8f,b8]
 have hg1:w.grownBy w1 none:=by rw[a9];exact q34 _ _ none
 have hg2:w1.grownBy w2 none:=by rw[a8];exact q34 _ _ none
 have d5:w1.heap[R]?=some (.cells #[.int .i64 0,.int .i64 0,.int .i64 0,.int .i64 0,.int .i64 0] 118 (0,0)):=by rw[a9,hR];exact q7j _ _
 have d6:w2.heap[R+1]?=some (.cells ([.int .i64 (-1),.int .i64 (-1),.int .i64 (-1),.int .i64 (-1),.int .i64 (-1)]:List q58).toArray 118 (0,0)):=by rw[a8,<- b8];exact q7j _ _
 have c9:=blk hg2 (by simp) d5;have b9:=q1D d6;have d7:=q1D c9;have a7:=q1D (hg1.trans hg2);have g6:=q1D c8;have HR:=q1D hR;clear a9 a8 b8 hg1 hg2 d5 d6 c9 c8 hR;have d8:=d7.out;obtain⟨w4,e9,a6,b0⟩:∃w4,(Builtin.copy_ #[29,29] 3 #[.slice (some ⟨R+1,0,none⟩) 5 5,.slice b l.length c]).run Tryp.prog w2=.ok (goInt l.length) w4/\w4.heap[R+1]?=some (.cells ((zO l).map (q9q .i64)).toArray 118 (0,0))/\Below (R+1) w2 w4:=by
  by_cases h0:l=[]
  ·subst h0
   exact⟨w2,run_copy_none (P:=Tryp.prog) w2 29 29 3 3 _ _ 5 5 0 c Tryp.und29' hsz rfl,by rw[b9.out];rfl,Below.refl _ _⟩
  ·obtain⟨B,o,rfl,-,g5,-,hcell⟩:=HC.out h0
   have hr:=run_copy_row (P:=Tryp.prog) w2 29 29 3 3 (R+1) 0 5 5 ⟨B,o,none⟩ l.length c _ 118 (l.map (q9q .i64)) Tryp.und29' hsz b9.out (by rw[qcl];show l.length=min l.length 5;omega) (λj v hj=>by
    rw[List.getElem?_map] at hj;cases hx:l[j]? with
    | none=>rw[hx] at hj;cases hj
    | some x =>
     rw[hx] at hj;cases hj;have h1:=hcell j (q8w.1 hx).1;rw[hx] at h1;exact kF (a7.out.cell h1 (by simp))) (by simp;omega) (by intro u hu;simp at hu;obtain⟨x,_,rfl⟩:=hu;rfl)
   rw[qcl] at hr;refine⟨_,hr,?_,below_setRow (Below.refl _ _) (q5m _) _⟩;rw[setRow_heap w2 (R+1) _ _ 118 _ b9.out];unfold zO;have:∀k,k<=5->([.int .i64 (-1),.int .i64 (-1),.int .i64 (-1),.int .i64 (-1),.int .i64 (-1)]:List q58).drop k=(List.replicate (5 - k) (-1)).map (q9q .i64):=by
    intro k hk;obtain rfl | rfl | rfl | rfl | rfl | rfl:k=0\/k=1\/k=2\/k=3\/k=4\/k=5:=by omega
    all_goals rfl
   simp[this _ hl]
 obtain⟨a0,a1,a2,a3,a4,e5⟩:=len5 (QI hl);rw[e5] at a6;have E5:=q1D e5;have Z:=(b0.block R (by omega)).trans d7.out;have c0:=qa a6 (o:=0) rfl;have c1:=qa a6 (o:=1) rfl;have c2:=qa a6 (o:=2) rfl;have c3:=qa a6 (o:=3) rfl;have c4:=qa a6 (o:=4) rfl;have d0:=qa Z (o:=0) rfl;have d1:=qa Z (o:=1) rfl;have d2:=qa Z (o:=2) rfl;have d3:=qa Z (o:=3) rfl;have d4:=qa Z (o:=4) rfl;have z0:=qn Z (o:=0);have z1:=qn Z (o:=1);have z2:=qn Z (o:=2);have z3:=qn Z (o:=3);have z4:=qn Z (o:=4);have e7:=q1D Z;have b6:=q1D b0;clear Z b0 e5 d8;go_wp2;obtain⟨wf,b7⟩:∃wf,wf=((((w4.setCell ⟨R,0,none⟩ (.int .i64 a0)).setCell ⟨R,1,none⟩ (.int .i64 a1)).setCell ⟨R,2,none⟩ (.int .i64 a2)).setCell ⟨R,3,none⟩ (.int .i64 a3)).setCell ⟨R,4,none⟩ (.int .i64 a4):=⟨_,rfl⟩
 rw[<- b7];have hrf:wf.heap[R]?=some (.cells #[.int .i64 a0,.int .i64 a1,.int .i64 a2,.int .i64 a3,.int .i64 a4] 118 (0,0)):=by
  rw[b7,qh (qh (qh (qh (qh e7.out))))];rfl
 have e6:w.grownBy w4 none:=⟨b6.out.os.trans a7.out.os,b6.out.tape.trans a7.out.tape,b6.out.output.trans a7.out.output,q87 a7.out.size b6.out.size,λk hk _=>(b6.out.block k (by have:=HR.out;omega)).trans (a7.out.block k hk (by simp))⟩
 have d9:w.grownBy wf none:=by
  rw[b7];have h:=HR.out;exact xx (xx (xx (xx (xx e6 (qg _ _ _ _) (by omega)) (qg _ _ _ _) (by omega)) (qg _ _ _ _) (by omega)) (qg _ _ _ _) (by omega)) (qg _ _ _ _) (by omega)
 have e0:=qa hrf (o:=0) rfl;have e1:=qa hrf (o:=1) rfl;have e2:=qa hrf (o:=2) rfl;have e3:=qa hrf (o:=3) rfl;have e4:=qa hrf (o:=4) rfl;refine qcG (v:=A5 (zO l)) ?_ rfl ⟨rfl,d9⟩;rw[E5.out];simp[results,Tryz.results112,go_sem,qal,hrf,A5]
end Go.Proofs.YtidgnkmjgioapaaGreat
end
section
namespace Go.Proofs.YtidgnkmjgioapaaGreat
open Go.RowKit
structure vL where
 Bl:Nat
 By:Nat
 Bn:Nat
 Bu:Nat
 Bg:Nat
 Bp:Nat
 n1:Nat
 l:Nat
 ws:List Int
 lb:Option qb9
 lc:Nat
 J:List (List Int × q58)->(Nat->Prop)->q3g->Prop
 Jx:List (List Int × q58)->(Nat->Prop)->q3g->Prop
 T:List (List Int)
def Pfx(X:vL)(pre:List (List Int × q58))(L:List (List Int)):Prop:=∃t,X.T=pre.map qdE++(L++t)
def xpI(x:List Int × q58)(A:q3g):Prop:=qe 0 A.heap.size A x.2 x.1
def xpO(ws:List Int)(x:List Int × q58)(A:q3g):Prop:=xpI x A/\x.1.length=ws.length/\x.1.Nodup/\(∀y∈x.1,y∈ws)/\(x.1≠[]\/x.2=.slice none 0 0)
structure Jo(X:vL):Prop where
 hlt:∀s G A,X.J s G A->∀k,G k->k<A.heap.size
 bl:X.Bl<X.n1
 b1:X.n1<=X.By
 b2:X.By<X.Bn
 b3:X.Bn<X.Bu
 b4:X.Bu<X.Bg
 b5:X.Bg<X.Bp
 hJ:∀s G A C,X.J s G A->Stp X.n1 X.Bl G A C->X.J s G C
 hJx:∀s G A C,X.Jx s G A->Stp X.n1 X.Bl G A C->X.Jx s G C
 five:∀x∈X.ws,0<=x/\x<5
 nd:X.ws.Nodup
 len:X.ws.length<=5
 hY:∀m pre G x A,X.J pre G A->xpO X.ws x A->Pfx X pre [x.1]->YieldAt Fence.wide m Tryp.prog X.l #[x.2] A λe C =>
   ∃G',(e=.returned (.bool true)/\X.J (pre++[x]) G' C/\Bod X.n1 X.Bl G G' A C)\/(e=.returned (.bool false)/\X.Jx (pre++[x]) G' C/\Bod X.n1 X.Bl G G' A C)
def ptA(b:Nat):q58:=.pointer (some ⟨b,0,none⟩)
structure It3(X:vL)(p:List Int)(G:Nat->Prop)(W:q3g)(lb:Option qb9)(lc:Nat)(nv:q58):Prop where
 ls:W.heap[X.Bl]?=some (.cells #[.slice lb X.ws.length lc] 29 (0,0))
 li:qe X.n1 W.heap.size W (.slice lb X.ws.length lc) X.ws
 lf:∀B o,lb=some ⟨B,o,none⟩->X.ws≠[]->¬ G B
 yl:W.heap[X.By]?=some (.cells #[.func (.yield X.l) #[] #[]] 51 (0,0))
 us:W.heap[X.Bu]?=some (.cells #[.int .u8 (zq p:Nat)] 130 (0,0))
 gr:W.heap[X.Bg]?=some (.cells #[.func (.func 154) #[] #[ptA X.Bn,ptA X.Bl,ptA X.By,ptA X.Bu,ptA X.Bp]] 31 (0,0))
 pu:W.heap[X.Bp]?=some (.cells #[.func (.func 150) #[] #[ptA X.Bn,ptA X.Bu,ptA X.Bg]] 82 (0,0))
 nw:W.heap[X.Bn]?=some (.cells #[nv] 29 (0,0))
 no:W.ownsRow X.n1 3 1 nv p.length (p.map (q9q .i64))
 nr:∀g,nv.ownBlock=some g->¬ G g/\∀B o,lb=some ⟨B,o,none⟩->X.ws≠[]->B≠g
 nn:p=[]->X.ws=[]->nv=.slice none 0 0
 nf:¬ G X.Bl/\¬ G X.By/\¬ G X.Bn/\¬ G X.Bu/\¬ G X.Bg/\¬ G X.Bp
def q1A(X:vL)(p:List Int)(G:Nat->Prop)(W:q3g):Prop:=∃nv,It3 X p G W X.lb X.lc nv
def zu(ws:List Int):Nat->List Int->List (List Int)
 | 0,p=>[p]
 | m+1,p=>ws.flatMap λn=>if n∈p then[] else zu ws m (p++[n])
def RowIs(X:vL)(W:q3g)(k:Nat):Prop:=∃v ty fr,W.heap[X.Bn]?=some (.cells #[v] ty fr)/\v.ownBlock=some k
structure ItR(X:vL)(G G':Nat->Prop)(A C:q3g):Prop where
 tape:C.tape=A.tape
 size:A.heap.size<=C.heap.size
 keep:∀k,k<A.heap.size->(X.n1<=k\/k=X.Bl)->¬ G k->k≠X.Bn->k≠X.Bu->¬ RowIs X A k->C.heap[k]?=A.heap[k]?
 fp:∀k,G' k->G k\/A.heap.size<=k
 row:∀k,RowIs X C k->RowIs X A k\/A.heap.size<=k
theorem ItR.refl(X:vL)(G:Nat->Prop)(A:q3g):ItR X G G A A:=⟨rfl,q5m _,λ_ _ _ _ _ _ _=>rfl,λ_ h=>.inl h,λ_ h=>.inl h⟩
theorem ItR.trans{X:vL}{G G' Z:Nat->Prop}{A C E:q3g}(h:ItR X G G' A C)(k:ItR X G' Z C E):ItR X G Z A E :=
 ⟨k.tape.trans h.tape,q87 h.size k.size,λj hj hn hf h1 h2 h3=>(k.keep j (q8m hj h.size) hn (λe=>(h.fp j e).elim hf (by omega)) h1 h2 (λe=>(h.row j e).elim h3 (by omega))).trans (h.keep j hj hn hf h1 h2 h3),
  λj hj=>(k.fp j hj).elim (h.fp j) (λe=>.inr (q87 h.size e)),λj hj=>(k.row j hj).elim (h.row j) (λe=>.inr (q87 h.size e))⟩
def RgB(X:vL)(p:List Int)(L:List (List Int))(pre:List (List Int × q58))(G:Nat->Prop)(W:q3g)(b:Bool)(W':q3g):Prop :=
 ∃G',q1A X p G' W'/\ItR X G G' W W'/\(if b=true then ∃xs,xs.map qdE=L/\X.J (pre++xs) G' W' else ∃xs t,L=xs.map qdE++t/\X.Jx (pre++xs) G' W')
def Rg(X:vL)(p:List Int)(L:List (List Int))(pre:List (List Int × q58))(G:Nat->Prop)(W:q3g)(e:Ending)(W':q3g):Prop:=∃b,e=.returned (.bool b)/\RgB X p L pre G W b W'
theorem qy{w:q3g}{k:Nat}{o:Obj}(h:w.heap[k]?=some o):k<w.heap.size:=(q45.1 h).1
theorem yW{w:q3g}{b n:Nat}{v:q58}{xs:List q58}(h:w.ownsRow b 3 1 v n xs){g:Nat}(hg:v.ownBlock=some g):b<=g/\∃cs,w.heap[g]?=some (.cells cs 3 (0,0)):=by
 rcases h.2 with⟨rfl,_⟩ | ⟨g',cap,cur,rfl,hb,hgb,_⟩
 ·simp[qak] at hg
 ·obtain rfl:g'=g:=by simpa[qak] using hg
  exact⟨hb,_,hgb⟩
theorem ZR{lo:Nat}{A C:q3g}{lb:Option qb9}{n lc:Nat}{l:List Int}(h:qe lo A.heap.size A (.slice lb n lc) l)(hs:A.heap.size<=C.heap.size)(hk:∀B o,lb=some ⟨B,o,none⟩->l≠[]->C.heap[B]?=A.heap[B]?):qe lo C.heap.size C (.slice lb n lc) l:=by
 obtain⟨base,cap,e,hl,hr⟩:=h;refine⟨base,cap,e,hl,λhne=>?_⟩;obtain⟨B,o,cs,fr,e1,e2,e3,e4,e5⟩:=hr hne;cases e;exact⟨B,o,cs,fr,e1,e2,by omega,(hk B o e1 hne).trans e4,e5⟩
theorem Ye{lo:Nat}{A C:q3g}{v:q58}{n:Nat}{xs:List q58}(h:A.ownsRow lo 3 1 v n xs)(hk:∀g,v.ownBlock=some g->C.heap[g]?=A.heap[g]?):C.ownsRow lo 3 1 v n xs:=by
 obtain⟨h1,h2⟩:=h;refine⟨h1,?_⟩;rcases h2 with h2 | ⟨g,cap,cur,rfl,hb,hg,hr⟩
 ·exact .inl h2
 ·exact .inr ⟨g,cap,cur,rfl,hb,(hk g (by simp[qak])).trans hg,hr⟩
theorem Yu{X:vL}{p:List Int}{G:Nat->Prop}{W:q3g}{lb:Option qb9}{lc:Nat}{nv:q58}(h:It3 X p G W lb lc nv){B o:Nat}(e:lb=some ⟨B,o,none⟩)(hne:X.ws≠[]):X.n1<=B/\B<W.heap.size/\∃cs fr,W.heap[B]?=some (.cells cs 3 fr):=by
 obtain⟨base,cap,e',hl,hr⟩:=h.li;cases e';obtain⟨B',o',cs,fr,e1,e2,e3,e4,e5⟩:=hr hne;rw[e] at e1;cases e1;exact⟨e2,e3,cs,fr,e4⟩
theorem It3.body{X:vL}(O:Jo X){p:List Int}{G G':Nat->Prop}{A C:q3g}{lb:Option qb9}{lc:Nat}{nv:q58}(h:It3 X p G A lb lc nv)(hb:Bod X.n1 X.Bl G G' A C):It3 X p G' C lb lc nv/\ItR X G G' A C:=by
 have h1:=O.b1;have h2:=O.b2;have h3:=O.b3;have h4:=O.b4;have h5:=O.b5;have Z:∀k,k<A.heap.size->¬ G k->¬ G' k:=λk hk hf e=>(hb.fp k e).elim hf (by omega);have sl:=hb.keep _ (qy h.ls) (.inr rfl) h.nf.1;have sy:=hb.keep _ (qy h.yl) (.inl h1) h.nf.2.1;have sn:=hb.keep _ (qy h.nw) (.inl (by omega)) h.nf.2.2.1;have su:=hb.keep _ (qy h.us) (.inl (by omega)) h.nf.2.2.2.1;have sg:=hb.keep _ (qy h.gr) (.inl (by omega)) h.nf.2.2.2.2.1;have sp:=hb.keep _ (qy h.pu) (.inl (by omega)) h.nf.2.2.2.2.2;refine⟨⟨sl.trans h.ls,ZR h.li hb.size λB o e hne=>?_,λB o e hne=>?_,sy.trans h.yl,su.trans h.us,sg.trans h.gr,sp.trans h.pu,sn.trans h.nw,Ye h.no λg e=>?_,λg e=>⟨?_,(h.nr g e).2⟩,h.nn,
  Z _ (qy h.ls) h.nf.1,Z _ (qy h.yl) h.nf.2.1,Z _ (qy h.nw) h.nf.2.2.1,Z _ (qy h.us) h.nf.2.2.2.1,Z _ (qy h.gr) h.nf.2.2.2.2.1,Z _ (qy h.pu) h.nf.2.2.2.2.2⟩,
  hb.tape,hb.size,λk hk hn hf _ _ _=>hb.keep k hk hn hf,hb.fp,λk hk=>?_⟩
 ·obtain⟨b1,b2,_⟩:=Yu h e hne
  exact hb.keep B b2 (.inl b1) (h.lf B o e hne)
 ·obtain⟨b1,b2,_⟩:=Yu h e hne
  exact Z B b2 (h.lf B o e hne)
 ·obtain⟨b1,cs,b2⟩:=yW h.no e
  exact hb.keep g (qy b2) (.inl b1) (h.nr g e).1
 ·obtain⟨b1,cs,b2⟩:=yW h.no e
  exact Z g (qy b2) (h.nr g e).1
 ·obtain⟨v,ty,fr,e1,e2⟩:=hk
  rw[sn] at e1;exact .inl ⟨v,ty,fr,e1,e2⟩
theorem It3.push{X:vL}(O:Jo X){p:List Int}{G:Nat->Prop}{A E C:q3g}{lb:Option qb9}{lc:Nat}{nv:q58}(h:It3 X p G A lb lc nv)(a8:∀k,G k->k<A.heap.size){n:Int}{g' cap:Nat}(hE:A.grownBy E nv.ownBlock)(hown:E.ownsRow X.n1 3 1 (.slice (some ⟨g',0,none⟩) (p.length+1) cap) (p.length+1) (p.map (q9q .i64)++[.int .i64 n]))(hg:nv.ownBlock=some g'\/A.heap.size<=g')
  (b6:C.os=E.os) (a7:C.tape=E.tape) (hout:C.output=E.output) (hC:C.heap=((E.setCell ⟨X.Bn,0,none⟩ (.slice (some ⟨g',0,none⟩) (p.length+1) cap)).setCell ⟨X.Bu,0,none⟩ (.int .u8 (zq (p++[n]):Nat))).heap) :
  It3 X (p++[n]) G C lb lc (.slice (some ⟨g',0,none⟩) (p.length+1) cap)/\Stp X.n1 X.Bl G A C/\ItR X G G A C/\∀k,k≠X.Bn->k≠X.Bu->C.heap[k]?=E.heap[k]?:=by
 have h1:=O.b1;have h2:=O.b2;have h3:=O.b3;have h4:=O.b4;have h5:=O.b5;have h0:=O.bl;have a6:∀{k:Nat} {o:Obj},A.heap[k]?=some o->(∀cs,o≠.cells cs 3 (0,0))->some k≠nv.ownBlock:=λ{k o} hk b7 e=>by
  obtain⟨_,cs,e2⟩:=yW h.no e.symm;rw[hk] at e2;exact b7 cs (Option.some.inj e2)
 have el:=(hE.block _ (qy h.ls) (a6 h.ls (λcs e=>by cases e))).trans h.ls;have ey:=(hE.block _ (qy h.yl) (a6 h.yl (λcs e=>by cases e))).trans h.yl;have en:=(hE.block _ (qy h.nw) (a6 h.nw (λcs e=>by cases e))).trans h.nw;have eu:=(hE.block _ (qy h.us) (a6 h.us (λcs e=>by cases e))).trans h.us;have eg:=(hE.block _ (qy h.gr) (a6 h.gr (λcs e=>by cases e))).trans h.gr;have ep:=(hE.block _ (qy h.pu) (a6 h.pu (λcs e=>by cases e))).trans h.pu;have Z:∀k,k≠X.Bn->k≠X.Bu->C.heap[k]?=E.heap[k]?:=λk k1 k2=>by
  rw[hC];exact(qbi _ _ _ k (λe=>k2 e)).trans (qbi _ _ _ k (λe=>k1 e))
 have cn:C.heap[X.Bn]?=some (.cells #[.slice (some ⟨g',0,none⟩) (p.length+1) cap] 29 (0,0)):=by
  rw[hC,qbi _ _ _ X.Bn (λe=>by have e':X.Bn=X.Bu:=e;omega),qh en];rfl
 have b8:(E.setCell ⟨X.Bn,0,none⟩ (.slice (some ⟨g',0,none⟩) (p.length+1) cap)).heap[X.Bu]?=some (.cells #[.int .u8 (zq p:Nat)] 130 (0,0)):=(qbi _ _ _ X.Bu (λe=>by have e':X.Bu=X.Bn:=e;omega)).trans eu;have cu:C.heap[X.Bu]?=some (.cells #[.int .u8 (zq (p++[n]):Nat)] 130 (0,0)):=by
  rw[hC,qh b8];rfl
 have hsz:C.heap.size=E.heap.size:=by rw[hC];simp[qci]
 have hst:Stp X.n1 X.Bl G A C:=⟨b6.trans hE.os,a7.trans hE.tape,hout.trans hE.output,by rw[hsz];exact hE.size,λk hk hc=>by
  have k1:k≠X.Bn:=by rintro rfl;exact hc.elim (λhc=>by omega) h.nf.2.2.1
  have k2:k≠X.Bu:=by rintro rfl;exact hc.elim (λhc=>by omega) h.nf.2.2.2.1
  rw[Z k k1 k2];refine hE.block k hk λe=>?_;obtain⟨b1,_⟩:=yW h.no e.symm;rcases hc with hc | hc
  ·omega
  ·exact(h.nr k e.symm).1 hc⟩
 have b0:X.n1<=g'/\∃cs,E.heap[g']?=some (.cells cs 3 (0,0)):=yW hown (by simp[qak]);obtain⟨b9,c3,a9⟩:=b0;have hne:∀{k:Nat} {cs:Array q58} {ty:q8u},E.heap[k]?=some (.cells cs ty (0,0))->ty≠3->g'≠k:=λ{k cs ty} hk ht e=>by
  rw[<- e,a9] at hk;cases hk;exact ht rfl
 have gn:=hne en (by decide);have gu:=hne eu (by decide);refine⟨⟨(Z _ (by omega) (by omega)).trans el,ZR h.li (by rw[hsz];exact hE.size) λB o e hw=>?_,h.lf,(Z _ (by omega) (by omega)).trans ey,cu,(Z _ (by omega) (by omega)).trans eg,(Z _ (by omega) (by omega)).trans ep,cn,?_,λg e=>?_,λe=>by simp at e,
  h.nf⟩,hst,
  ⟨a7.trans hE.tape,by rw[hsz];exact hE.size,λk hk hn hf k1 k2 k3=>?_,λk hk=>.inl hk,λk hk=>?_⟩,Z⟩
 ·obtain⟨b1,b2,cs,fr,b3⟩:=Yu h e hw
  rw[Z B (λe=>?_) (λe=>?_)]
  ·exact hE.block B b2 λe'=>(h.nr B e'.symm).2 B o e hw rfl
  ·subst e;rw[h.nw] at b3;cases b3
  ·subst e;rw[h.us] at b3;cases b3
 ·rw[qb3,qc5]
  exact Ye hown λg e=>Z g (by
   obtain rfl:g'=g:=by simpa[qak] using e
   exact gn) (by
   obtain rfl:g'=g:=by simpa[qak] using e
   exact gu)
 ·obtain rfl:g'=g:=by simpa[qak] using e
  refine⟨λhf=>?_,λB o e hw e2=>?_⟩
  ·rcases hg with hg | hg
   ·exact(h.nr _ hg).1 hf
   ·exact absurd (a8 _ hf) (by omega)
  ·obtain⟨b1,b2,_⟩:=Yu h e hw
   rcases hg with hg | hg
   ·exact(h.nr _ hg).2 B o e hw e2
   ·omega
 ·rw[Z k k1 k2]
  exact hE.block k hk λe=>k3 ⟨nv,_,_,h.nw,e.symm⟩
 ·obtain⟨v,ty,fr,e1,e2⟩:=hk
  rw[cn] at e1;cases e1;obtain rfl:g'=k:=by simpa[qak] using e2
  rcases hg with hg | hg
  ·exact .inl ⟨nv,_,_,h.nw,hg⟩
  ·exact .inr hg
theorem q2z{w:q3g}{b k:Nat}{v:q58}{xs:List q58}{y:q58}(h:w.ownsRow b 3 1 v (k+1) (xs++[y])):∃g cap,v=.slice (some ⟨g,0,none⟩) (k+1) cap/\k+1<=cap/\w.ownsRow b 3 1 (.slice (some ⟨g,0,none⟩) k cap) k xs:=by
 obtain⟨h1,h2⟩:=h;rcases h2 with⟨_,h0⟩ | ⟨g,cap,cur,rfl,hb,hg,hc,hm,hs,ht⟩
 ·omega
 ·have hk:xs.length=k:=by simp at h1;omega
  refine⟨g,cap,rfl,hc,by simpa using hk,.inr ⟨g,cap,cur,rfl,hb,hg,by omega,hm,hs,?_⟩⟩;have:=congrArg (List.take (k*1)) ht;rw[List.take_take,Nat.min_eq_left (by omega)] at this;rw[this,List.take_left' (by omega)]
theorem It3.pop{X:vL}(O:Jo X)(a7:X.ws≠[]){p:List Int}{G:Nat->Prop}{A C:q3g}{lb:Option qb9}{lc:Nat}{g cap:Nat}{n:Int}(h:It3 X (p++[n]) G A lb lc (.slice (some ⟨g,0,none⟩) (p.length+1) cap))(hC:Popped X.Bn X.Bu (some ⟨g,0,none⟩) p.length cap (zq p) A C) :
  It3 X p G C lb lc (.slice (some ⟨g,0,none⟩) p.length cap)/\Stp X.n1 X.Bl G A C/\ItR X G G A C:=by
 obtain⟨a8,a6,hout,hh⟩:=hC;have h1:=O.b1;have h2:=O.b2;have h3:=O.b3;have h4:=O.b4;have h5:=O.b5;have h0:=O.bl;have Z:∀k,k≠X.Bn->k≠X.Bu->C.heap[k]?=A.heap[k]?:=λk k1 k2=>by
  rw[hh];exact(qbi _ _ _ k (λe=>k2 e)).trans (qbi _ _ _ k (λe=>k1 e))
 have cn:C.heap[X.Bn]?=some (.cells #[.slice (some ⟨g,0,none⟩) p.length cap] 29 (0,0)):=by
  rw[hh,qbi _ _ _ X.Bn (λe=>by have e':X.Bn=X.Bu:=e;omega),qh h.nw];rfl
 have b0:(A.setCell ⟨X.Bn,0,none⟩ (.slice (some ⟨g,0,none⟩) p.length cap)).heap[X.Bu]?=some (.cells #[.int .u8 (zq (p++[n]):Nat)] 130 (0,0)):=(qbi _ _ _ X.Bu (λe=>by have e':X.Bu=X.Bn:=e;omega)).trans h.us;have cu:C.heap[X.Bu]?=some (.cells #[.int .u8 (zq p:Nat)] 130 (0,0)):=by
  rw[hh,qh b0];rfl
 have hsz:C.heap.size=A.heap.size:=by rw[hh];simp[qci]
 have hst:Stp X.n1 X.Bl G A C:=⟨a8,a6,hout,by rw[hsz];exact q5m _,λk hk hc=>Z k (λe=>by
  subst e;rcases hc with hc | hc
  ·omega
  ·exact h.nf.2.2.1 hc) (λe=>by
  subst e;rcases hc with hc | hc
  ·omega
  ·exact h.nf.2.2.2.1 hc)⟩
 have hown:A.ownsRow X.n1 3 1 (.slice (some ⟨g,0,none⟩) p.length cap) p.length (p.map (q9q .i64)):=by
  have hn:=h.no;rw[qb3,qc5] at hn;obtain⟨g',cap',e,_,ho⟩:=q2z (y:=.int .i64 n) hn;cases e;exact ho
 obtain⟨_,b6,a9⟩:=yW hown (g:=g) (by simp[qak]);have hne:∀{k:Nat} {cs:Array q58} {ty:q8u},A.heap[k]?=some (.cells cs ty (0,0))->ty≠3->g≠k:=λ{k cs ty} hk ht e=>by
  rw[<- e,a9] at hk;cases hk;exact ht rfl
 have hr:=h.nr g (by simp[qak]);refine⟨⟨(Z _ (by omega) (by omega)).trans h.ls,ZR h.li (by rw[hsz];exact q5m _) λB o e hw=>?_,h.lf,(Z _ (by omega) (by omega)).trans h.yl,cu,(Z _ (by omega) (by omega)).trans h.gr,(Z _ (by omega) (by omega)).trans h.pu,cn,Ye hown λg' e=>?_,λg' e=>?_,λ_ e=>absurd e a7,
  h.nf⟩,hst,
  ⟨a6,by rw[hsz];exact q5m _,λk hk hn hf k1 k2 k3=>Z k k1 k2,λk hk=>.inl hk,λk hk=>?_⟩⟩
 ·obtain⟨b1,b2,cs,fr,b3⟩:=Yu h e hw
  exact Z B (λe=>by subst e;rw[h.nw] at b3;cases b3) (λe=>by subst e;rw[h.us] at b3;cases b3)
 ·obtain rfl:g=g':=by simpa[qak] using e
  exact Z g (hne h.nw (by decide)) (hne h.us (by decide))
 ·obtain rfl:g=g':=by simpa[qak] using e
  exact hr
 ·obtain⟨v,ty,fr,e1,e2⟩:=hk
  rw[cn] at e1;cases e1;exact .inl ⟨_,_,_,h.nw,e2⟩
theorem q02(p:List Int)(x:Int):zq (p++[x])=zq p ||| 2 ^ x.toNat:=by simp[zq]
theorem put_of(X:vL)(O:Jo X)(L:List (List Int))(p:List Int)(n:Nat)(hn:(n:Int)∈X.ws)(n9:(n:Int)∉p)(hp:∀x∈p,x∈X.ws)(r6:p.length+1<=5)
  (e4:∀pre G A,X.J pre G A->Pfx X pre L->q1A X (p++[(n:Int)]) G A->qaD Tryp.prog 154 #[ptA X.Bn,ptA X.Bl,ptA X.By,ptA X.Bu,ptA X.Bp] A (Rg X (p++[(n:Int)]) L pre G A)) :
  ∀pre G A,X.J pre G A->Pfx X pre L->q1A X p G A->qaD Tryp.prog 150 #[.int .i64 n,ptA X.Bn,ptA X.Bu,ptA X.Bg] A (Rg X p L pre G A):=by
 intro pre G A hJ p6 p7;obtain⟨nv,hI⟩:=p7;obtain⟨i0,p4,n8,n7,n6⟩:=qch Tryp.info3p;have h9:n<5:=by have:=O.five _ hn;omega
 have c9:zq p<32:=Qh p 5 λx hx=>by have:=O.five x (hp x hx);omega
 have k9:(zq p).testBit n=false:=by
  rw[Bool.eq_false_iff];intro h;obtain⟨y,hy,r4⟩:=(Yp p n).1 h;have:=O.five y (hp y hy);obtain rfl:y=(n:Int):=by omega
  exact n9 hy
 obtain⟨na,nn,nc,rfl⟩:=zV hI.no;have hb1:=O.b1;have s4:=O.b2;have s3:=O.b3;have s2:=O.b4;have s1:=O.b5;obtain⟨Bx,e9⟩:∃Bx,Bx=A.heap.size:=⟨_,rfl⟩
 obtain⟨W1,b0⟩:∃W1,W1=A.alloc (.cells #[.int .i64 n] 3):=⟨_,rfl⟩
 have hg1:A.grownBy W1 none:=by rw[b0];exact q34 _ _ none
 have d8:W1.heap[Bx]?=some (.cells #[.int .i64 n] 3 (0,0)):=by rw[b0,e9];exact q7j A _
 have g7:W1.heap.size=A.heap.size+1:=by rw[b0,q8f]
 have b7:=blk hg1 (by simp) hI.nw;have b6:=blk hg1 (by simp) hI.us;have g8:=blk hg1 (by simp) hI.gr;have r8:X.n1<=A.heap.size:=by have:=qy hI.nw;omega
 have d9:∀{k:Nat} {o:Obj},A.heap[k]?=some o->(∀cs,o≠.cells cs 3 (0,0))->some k≠(qbp na nn nc).ownBlock:=λ{k o} hk p3 e=>by
  obtain⟨_,cs,e2⟩:=yW hI.no e.symm;rw[hk] at e2;exact p3 cs (Option.some.inj e2)
 have m4:=q1D (d9 hI.nw (λcs e=>by cases e));have m3:=q1D (d9 hI.us (λcs e=>by cases e));have l9:=q1D (show some Bx≠(qbp na nn nc).ownBlock from λe=>by
  obtain⟨_,cs,e2⟩:=yW hI.no e.symm;have:=qy e2;omega)
 have c1:W1.cell? ⟨X.Bn,0,none⟩=some (.slice na nn nc):=qa b7 rfl;have l5:W1.cell? ⟨X.Bu,0,none⟩=some (.int .u8 (zq p:Nat)):=qa b6 rfl;have c3:W1.cell? ⟨Bx,0,none⟩=some (.int .i64 n):=qa d8 rfl;have c4:W1.cell? ⟨X.Bg,0,none⟩=some (.func (.func 154) #[] #[ptA X.Bn,ptA X.Bl,ptA X.By,ptA X.Bu,ptA X.Bp]):=qa g8 rfl;have z1:=qn (o:=0) b7;have z2:=qn (o:=0) b6;have k0:X.Bn<W1.heap.size:=qy b7;have hl2:X.Bu<W1.heap.size:=qy b6;have q2:=q1D (hI.no.kept hg1 (by cases(qbp na nn nc).ownBlock<;>simp));have HI:=q1D hI;have l7:=q1D d8;have q6:=q1D hg1;have q0:=q1D b0;have g5:=q1D e9;obtain⟨M,hM⟩:∃M:Int,M=(zq p:Nat):=⟨_,rfl⟩
 obtain⟨M2,e7⟩:∃M2:Int,(zq p ||| 2 ^ n:Nat)=M2:=⟨_,rfl⟩
 have c2:W1.cell? ⟨X.Bu,0,none⟩=some (.int .u8 M):=by rw[hM];exact l5
 have HM:=q1D hM;have q3:=q1D e7;have a8:∀w,qaD Tryp.prog 151 #[.int .u8 M,.int .i64 n] w λe w'=>e=.returned (.int .u8 M2)/\w=w':=λw=>by
  rw[hM,<- e7];exact JK _ n w c9 h9
 have p9:=q1D a8;have l8:=q1D g7;have r7:X.n1<=W1.heap.size:=by omega
 clear hI d9 d8 hg1 b0 e9 b7 b6 g8 l5 hM e7 a8 g7;unfold ptA at *
 go_enter_defers Tryp.func150,Tryz.ntmps150;go_upto_region 1 with(fail)
 rw[<- g5.out,show A.alloc (.cells #[.int .i64 n] 3)=W1 from q0.out.symm];refine wp_region_noPanic ?_;refine qR 7 (λw'=>w'.cell? ⟨X.Bn,0,none⟩=some (.slice na nn nc)/\w'.cell? ⟨X.Bu,0,none⟩=some (.int .u8 M)/\w'.cell? ⟨Bx,0,none⟩=some (.int .i64 n)) (by kernel_rfl) (by kernel_rfl) ⟨c1,c2,c3⟩ (λZ=>?_);simp only[q8l,q9k,q9F,qbA,q9m,qao,qat,qbd,qae,q9y];refine tk 0 ?_;try go_frame
 refine tk 1 ?_;try go_frame
 refine tk 4 ?_;try go_frame
 refine tk 5 ?_;try go_frame
 refine rdy [2] ?_;refine cns 2 (λK hK=>?_) ?_
 ·skip
  go_simp;refine hK.out _ _ (by first | exact s5 | exact Z | exact⟨(q34 _ _ none).cell Z.1 (by simp),(q34 _ _ none).cell Z.2.1 (by simp),(q34 _ _ none).cell Z.2.2 (by simp)⟩) (λZ=>?_);clear hK K;try go_frame
  refine rdy [3] ?_;refine cns 3 (λK hK=>?_) ?_
  ·skip
   refine step_append_lies _ (by rfl) _ _ _ (by rfl) X.n1 3 i0 _ 1 8 Tryp.und29' p4 n8 n7 n6 rfl (by omega) (.slice na nn nc) p.length (p.map (q9q .i64)) (by rfl) (by exact q2.out.alloc _) ⟨W1.heap.size,0,none⟩ 1 1 [.int .i64 n] (by rfl) (by rfl) (qbg (cs:=#[.int .i64 n]) (t:=3) (fr:=(0,0)) (q7j W1 _)) (by simp[qbD]) (by omega) (by unfold maxLen;omega) (by omega) (by simp;omega) (W1.heap.size+1) (by simp) ?_;intro g' cap w5 a9 a6 d6 r3;have a7:W1.grownBy w5 (qbp na nn nc).ownBlock:=((q34 W1 (.cells #[.int .i64 n] 3) none).but _).trans ⟨a6.os,a6.tape,a6.output,a6.size,a6.block⟩;have s5:w5.cell? ⟨X.Bn,0,none⟩=some (.slice na nn nc)/\w5.cell? ⟨X.Bu,0,none⟩=some (.int .u8 M)/\w5.cell? ⟨Bx,0,none⟩=some (.int .i64 n):=⟨a7.cell c1 m4.out,a7.cell c2 m3.out,a7.cell c3 l9.out⟩
   have m9:=(a7.frozen_far _ k0 m4.out).trans z1;have m8:=(a7.frozen_far _ hl2 m3.out).trans z2;have q1:=q1D a9;have m6:=q1D a7;have m7:=q1D d6;clear a9 a7 d6 a6;refine hK.out _ _ (by first | exact s5 | exact Z | exact⟨(q34 _ _ none).cell Z.1 (by simp),(q34 _ _ none).cell Z.2.1 (by simp),(q34 _ _ none).cell Z.2.2 (by simp)⟩) (λZ=>?_);clear hK K;try go_frame
   refine rdy [6] ?_;refine cns 6 (λK hK=>?_) ?_
   ·skip
    go_simp;go_at_call 151;refine(p9.out _).mono ?_;rintro e w2 ⟨rfl,rfl⟩;refine hK.out _ _ (by first | exact s5 | exact Z | exact⟨(q34 _ _ none).cell Z.1 (by simp),(q34 _ _ none).cell Z.2.1 (by simp),(q34 _ _ none).cell Z.2.2 (by simp)⟩) (λZ=>?_);clear hK K;try go_frame
    refine⟨by kernel_rfl,?_⟩;simp only[qbh,qbH];have h8:X.Bn≠X.Bu:=by omega
    have q7:X.Bu≠X.Bn:=by omega
    have n3:=s5.1;have n2:=s5.2.1;go_wp2;refine NoPanic.normal ?_;obtain⟨C,hC⟩:∃C,C=(w5.setCell ⟨X.Bn,0,none⟩ (.slice (some ⟨g',0,none⟩) (p.length+1) cap)).setCell ⟨X.Bu,0,none⟩ (.int .u8 M2):=⟨_,rfl⟩
    rw[<- hC];obtain⟨e8,hst,k6,e5⟩:=HI.out.push O (O.hlt _ _ _ hJ) (n:=(n:Int)) (g':=g') (cap:=cap) (A:=A) (E:=w5) (C:=C) ((q6.out.but _).trans m6.out) q1.out (by rcases m7.out with h | h;exact .inl h;right;have:=l8.out;omega) (by rw[hC];rfl) (by rw[hC];rfl) (by rw[hC];rfl) (by rw[hC,q02,Int.toNat_natCast,q3.out]);have l4:=O.hJ _ _ _ _ hJ hst;have k8:C.heap[Bx]?=some (.cells #[.int .i64 n] 3 (0,0)):=by
     have h1:=qy HI.out.nw;have h2:=qy HI.out.us;have h3:=g5.out;rw[e5 Bx (by omega) (by omega)];exact(m6.out.block _ (qy l7.out) l9.out).trans l7.out
    have s7:C.cell? ⟨X.Bg,0,none⟩=some (.func (.func 154) #[] #[.pointer (some ⟨X.Bn,0,none⟩),.pointer (some ⟨X.Bl,0,none⟩),.pointer (some ⟨X.By,0,none⟩),.pointer (some ⟨X.Bu,0,none⟩),.pointer (some ⟨X.Bp,0,none⟩)]):=qa (o:=0) e8.gr rfl;have HC:=q1D hC;have s9:=q1D e5;have m5:=q1D e8;have s8:=q1D hst;have q5:=q1D k6;have q4:=q1D l4;have l6:=q1D k8;clear hC e5 e8 hst k6 l4 k8 n3 n2 s5 m9 m8 c1 c2 c3 c4 z1 z2 k0 hl2 Z;go_wp2_with (first | (go_at_call 154;refine(e4 pre G C q4.out p6 ⟨_,m5.out⟩).mono ?_;rintro e w6 ⟨b,rfl,hR⟩));obtain⟨G6,⟨n4,h6⟩,d5,b9⟩:=hR;have c8:=h6.no;rw[qb3,qc5] at c8;obtain⟨g6,d7,e6,p5,-⟩:=q2z (y:=.int .i64 n) c8;have p8:n4=.slice (some ⟨g6,0,none⟩) (p.length+1) d7:=e6;subst p8;have s6:=g5.out;have r9:=qy HI.out.nw;have r5:=qy HI.out.us;have k7:w6.heap[Bx]?=some (.cells #[.int .i64 n] 3 (0,0)):=by
     rw[d5.keep Bx (qy l6.out) (.inl (by omega)) (λhf=>?_) (by omega) (by omega) (λhr=>?_)]
     ·exact l6.out
     ·have:=O.hlt _ _ _ hJ _ hf
      omega
     ·obtain⟨v,ty,fr,e1,e2⟩:=hr
      rw[m5.out.nw] at e1;cases e1;obtain rfl:g'=Bx:=by simpa[qak] using e2
      rcases m7.out with h | h
      ·obtain⟨_,cs,h2⟩:=yW HI.out.no h
       have:=qy h2;omega
      ·have:=l8.out
       omega
    refine leaves_cons (f:=152) (args:=#[.pointer (some ⟨X.Bn,0,none⟩),.pointer (some ⟨X.Bu,0,none⟩),.pointer (some ⟨Bx,0,none⟩)]) (by simp) (by simp[go_sem]) ?_;refine(pop_any X.Bn X.Bu Bx (some ⟨g6,0,none⟩) p.length d7 (zq p) n w6 h9 c9 k9 (by omega) p5 h8 (by omega) h6.nw (by rw[h6.us,q02,Int.toNat_natCast]) k7 _).mono ?_;rintro e u' w7 ⟨rfl,rfl,g9⟩;obtain⟨h7,b8,k5⟩:=h6.pop O (λe=>by rw[e] at hn;cases hn) g9;refine⟨.bool b,by rw[results_tmp (t:=5) rfl];rfl,b,rfl,G6,⟨_,h7⟩,(q5.out.trans d5).trans k5,?_⟩;cases b with
    | true =>
     obtain⟨xs,e1,e2⟩:=b9;exact⟨xs,e1,O.hJ _ _ _ _ e2 b8⟩
    | false =>
     obtain⟨xs,t,e1,e2⟩:=b9;exact⟨xs,t,e1,O.hJx _ _ _ _ e2 b8⟩
   exact qm.nil
  exact qm.nil
 exact qm.nil
end Go.Proofs.YtidgnkmjgioapaaGreat
end
section
namespace Go.Proofs.YtidgnkmjgioapaaGreat
open Go.RowKit Go.Shelf
attribute [local go_sem] Oper.semAt_some
theorem q61{w:q3g}{b n:Nat}{v:q58}{xs:List q58}(h:w.ownsRow b 3 1 v n xs):∃a c,v=.slice a n c:=by
 rcases h.2 with⟨rfl,h0⟩ | ⟨g,cap,cur,rfl,_⟩
 ·exact⟨none,0,by rw[h0]⟩
 ·exact⟨_,_,rfl⟩
theorem It3.xp{X:vL}{p:List Int}{G:Nat->Prop}{W:q3g}{lb:Option qb9}{lc:Nat}{nv:q58}(h:It3 X p G W lb lc nv)(hl:p.length<=5):xpI (p,nv) W:=(qe.own h.no (by omega)).mono (qa8 _) (q5m _)
theorem q7q(X:vL)(O:Jo X)(p:List Int)(hp:p.length=X.ws.length)(a9:p.Nodup)(a8:∀x∈p,x∈X.ws):∀pre G A,X.J pre G A->Pfx X pre (zu X.ws 0 p)->q1A X p G A->qaD Tryp.prog 154 #[ptA X.Bn,ptA X.Bl,ptA X.By,ptA X.Bu,ptA X.Bp] A (Rg X p (zu X.ws 0 p) pre G A):=by
 intro pre G A hJ b0 b6;obtain⟨nv,hI⟩:=b6;have a7:=hI.xp (by have:=O.len;omega);obtain⟨na,nc,rfl⟩:=q61 hI.no;have c1:A.cell? ⟨X.Bn,0,none⟩=some (.slice na p.length nc):=qa hI.nw rfl;have c2:A.cell? ⟨X.Bl,0,none⟩=some (.slice X.lb X.ws.length X.lc):=qa hI.ls rfl;have c3:A.cell? ⟨X.By,0,none⟩=some (.func (.yield X.l) #[] #[]):=qa hI.yl rfl;obtain⟨fn,tmps,assign,body,hy,hR⟩:=O.hY 2 pre G (p,.slice na p.length nc) A hJ ⟨a7,hp,a9,a8,(qd6 (p=[])).elim (λh=>.inr (hI.nn h (qbo (by rw[<- hp,h];rfl)))) .inl⟩ b0;have b7:((p.length:Int) == (X.ws.length:Int))=true:=by rw[hp];simp
 have HI:=q1D hI;dsimp only at hy;clear a7 hI hp;refine(qcx (n:=3)).1 ?_;refine callsIn_of_wp Tryp.func154 rfl trivial ?_ rfl;have b8:∀k:Nat,(Fence.wide.depth.isSome=true->1<=k):=λk h=>by cases h
 unfold ptA;simp only[Tryz.ntmps154,qa0,q8l,q9k,q9F,qbA,qao,qat,qbd,qdi,qae,q9y]
 gi_wp2
 refine hR.mono ?_;rintro e W3 ⟨G3,⟨rfl,a6,Z⟩ | ⟨rfl,a6,Z⟩⟩
 ·gi_wp2
  go_ret;obtain⟨h3,r3⟩:=HI.out.body O Z;exact⟨true,rfl,G3,⟨_,h3⟩,r3,[(p,.slice na p.length nc)],rfl,a6⟩
 ·gi_wp2
  go_ret;obtain⟨h3,r3⟩:=HI.out.body O Z;exact⟨false,rfl,G3,⟨_,h3⟩,r3,[(p,.slice na p.length nc)],[],rfl,a6⟩
theorem vS(ws p:List Int)(m k:Nat)(x:Int)(h:ws[k]?=some x):((ws.take (k+1)).flatMap λn=>if n∈p then[] else zu ws m (p++[n]))=((ws.take k).flatMap λn=>if n∈p then[] else zu ws m (p++[n]))++(if x∈p then[] else zu ws m (p++[x])):=by
 rw[qbc,h];simp
theorem xQ(ws p:List Int)(m k:Nat):zu ws (m+1) p=((ws.take k).flatMap λn=>if n∈p then[] else zu ws m (p++[n]))++((ws.drop k).flatMap λn=>if n∈p then[] else zu ws m (p++[n])):=by
 rw[<- List.flatMap_append,List.take_append_drop];rfl
theorem q7r(X:vL)(O:Jo X)(m:Nat)(p:List Int)(hp:p.length+(m+1)=X.ws.length)(g5:p.Nodup)(b0:∀x∈p,x∈X.ws)
  (ih:∀q,q.length+m=X.ws.length->q.Nodup->(∀x∈q,x∈X.ws)->∀pre G A,X.J pre G A->Pfx X pre (zu X.ws m q)->q1A X q G A->qaD Tryp.prog 154 #[ptA X.Bn,ptA X.Bl,ptA X.By,ptA X.Bu,ptA X.Bp] A (Rg X q (zu X.ws m q) pre G A)) :
  ∀pre G A,X.J pre G A->Pfx X pre (zu X.ws (m+1) p)->q1A X p G A->qaD Tryp.prog 154 #[ptA X.Bn,ptA X.Bl,ptA X.By,ptA X.Bu,ptA X.Bp] A (Rg X p (zu X.ws (m+1) p) pre G A):=by
 intro pre G A hJ e5 g9;obtain⟨nv,hI⟩:=g9;have g7:=O.len;obtain⟨na,nc,rfl⟩:=q61 hI.no;have c1:A.cell? ⟨X.Bn,0,none⟩=some (.slice na p.length nc):=qa hI.nw rfl;have c2:A.cell? ⟨X.Bl,0,none⟩=some (.slice X.lb X.ws.length X.lc):=qa hI.ls rfl;have l4:((p.length:Int) == (X.ws.length:Int))=false:=by rw[beq_eq_false_iff_ne];omega
 have b8:∀n:Nat,(n:Int)∈X.ws->¬ (n:Int)∈p->∀pre G A,X.J pre G A->Pfx X pre (zu X.ws m (p++[(n:Int)]))->q1A X p G A->qaD Tryp.prog 150 #[.int .i64 n,ptA X.Bn,ptA X.Bu,ptA X.Bg] A (Rg X p (zu X.ws m (p++[(n:Int)])) pre G A):=λn hn d8 =>
  put_of X O _ p n hn d8 b0 (by omega) (ih _ (by simp;omega) (List.nodup_append.2 ⟨g5,by simp,λa ha b hb e=>d8 (by rw[List.mem_singleton.1 hb] at e;exact e ▸ ha)⟩) (λx hx=>by rcases qcz.1 hx with h | h;exact b0 x h;rw[List.mem_singleton.1 h];exact hn))
 have e9:=q1D b8;have h8:=hI;have HI:=q1D hI;have HJ:=q1D hJ;have HP:=q1D hp;have k5:=q1D e5;clear e5;clear hI hp ih hJ b8 h8;refine(qcx (n:=3)).1 ?_;refine callsIn_of_wp Tryp.func154 rfl trivial ?_ rfl;have l5:∀k:Nat,(Fence.wide.depth.isSome=true->1<=k):=λk h=>by cases h
 unfold ptA at *
 simp only[Tryz.ntmps154,qa0,q8l,q9k,q9F,qbA,qao,qat,qbd,qdi,qae,q9y]
 gi_wp2
 gi_loopw [18] (λiv wr=>∃k:Nat,iv=.int .i64 k/\k<=X.ws.length/\∃Gk,q1A X p Gk wr/\ItR X G Gk A wr/\∃xs,xs.map qdE=((X.ws.take k).flatMap λn=>if n∈p then[] else zu X.ws m (p++[n]))/\X.J (pre++xs) Gk wr) (λiv _=>(X.ws.length - qb2 iv).toNat)
 case atStart=>exact⟨0,rfl,by omega,G,⟨_,HI.out⟩,ItR.refl _ _ _,[],by simp,by simpa using HJ.out⟩
 case round =>
  obtain⟨k,rfl,hk,Gk,⟨k7,e7⟩,e4,xs,hxs,e6⟩:=hrel;have a7:=q1D e7;have b7:=q1D e4;have a8:=q1D hxs;have d7:=q1D e6;clear e7 e4 hxs e6 c1 c2;by_cases hlt:k<X.ws.length
  ·obtain⟨x,a9⟩:∃x,X.ws[k]?=some x:=⟨_,q7C hlt⟩
   have c9:=q8z a9;have k9:=O.five x c9;obtain⟨b1,l9,he,-,hc⟩:=a7.out.li.cell;cases he;obtain⟨B,o,g8,l8,l7,l6,e8⟩:=hc (by intro e;rw[e] at hlt;simp at hlt);have hx:=e8 k hlt;rw[a9] at hx;simp only[q88] at hx;obtain⟨n,rfl⟩:∃n:Nat,x=n:=⟨x.toNat,by omega⟩
   have c3:wr.cell? ⟨X.Bu,0,none⟩=some (.int .u8 (zq p:Nat)):=qa a7.out.us rfl;have c4:wr.cell? ⟨X.Bp,0,none⟩=some (.func (.func 150) #[] #[.pointer (some ⟨X.Bn,0,none⟩),.pointer (some ⟨X.Bu,0,none⟩),.pointer (some ⟨X.Bg,0,none⟩)]):=qa a7.out.pu rfl;have g6:n<5:=by omega
   have d9:zq p<32:=Qh p 5 λx hx=>by have:=O.five x (b0 x hx);omega
   have k6:(k:Int)<(X.ws.length:Int):=by omega
   have b6:=q1D a9;have h9:=q1D c9;obtain⟨M,hM⟩:∃M:Int,M=(zq p:Nat):=⟨_,rfl⟩
   rw[<- hM] at c3;have c8:(zq p).testBit n=decide ((n:Int)∈p):=by
    rw[Bool.eq_iff_iff,Yp,decide_eq_true_eq];constructor
    ·rintro⟨y,hy,k8⟩
     have:=O.five y (b0 y hy);obtain rfl:y=(n:Int):=by omega
     exact hy
    ·exact λh=>⟨n,h,by omega⟩
   have b9:∀w,qaD Tryp.prog 129 #[.int .u8 M,.int .i64 n] w λe w'=>e=.returned (.bool (decide ((n:Int)∈p)))/\w=w':=λw=>by
    rw[hM,<- c8];exact q6g _ n w d9 g6
   have Z:=q1D b9;clear a9 c9 hc e8 hM c8 b9;rw[g8];by_cases hin:(n:Int)∈p
   ·have hd:decide ((n:Int)∈p)=true:=by simpa using hin
    have a6:=q1D hin;clear hin;rw[hd] at Z;clear hd
    gi_wp2_with (first | (refine⟨trivial,?_⟩;gi_at_call 129;refine(qcx.2 (Z.out _)).mono ?_;rintro e w2 ⟨rfl,rfl⟩))
    refine⟨λ_ h=>(by cases h),?_⟩
    gi_wp2
    go_roundw
    case rel=>exact⟨k+1,by simp,by omega,Gk,⟨_,a7.out⟩,b7.out,xs,by rw[vS _ _ _ _ _ b6.out,if_pos a6.out,List.append_nil];exact a8.out,d7.out⟩
    case measure=>simp[qb2];omega
   ·have hd:decide ((n:Int)∈p)=false:=by simpa using hin
    have a6:=q1D hin;clear hin;rw[hd] at Z;clear hd;have k0:=q1D (show Pfx X (pre++xs) (zu X.ws m (p++[(n:Int)])) by
     obtain⟨t,ht⟩:=k5.out;rw[xQ X.ws p m (k+1),vS _ _ _ _ _ b6.out,if_neg a6.out,<- a8.out] at ht;exact⟨_,by rw[ht,qc5];simp only[qc1];rfl⟩)
    gi_wp2_with (first
     | (refine⟨trivial,?_⟩;gi_at_call 129;refine(qcx.2 (Z.out _)).mono ?_;rintro e w2 ⟨rfl,rfl⟩)
     | (refine⟨trivial,?_⟩;gi_at_call 150;refine(qcx.2 (e9.out n h9.out a6.out (pre++xs) Gk _ d7.out k0.out ⟨_,a7.out⟩)).mono ?_;rintro e w3 ⟨b,rfl,hR⟩;cases b))
    ·obtain⟨G3,d6,d5,ys,t,e1,e2⟩:=hR
     go_ret;refine⟨false,rfl,G3,d6,b7.out.trans d5,xs++ys,t++((X.ws.drop (k+1)).flatMap λn=>if n∈p then[] else zu X.ws m (p++[n])),?_,by simpa using e2⟩;rw[xQ X.ws p m (k+1),vS _ _ _ _ _ b6.out,if_neg a6.out,e1,qc5,a8.out];simp
    ·obtain⟨G3,d6,d5,ys,e1,e2⟩:=hR
     go_roundw
     case rel=>exact⟨k+1,by simp,by omega,G3,d6,b7.out.trans d5,xs++ys,by rw[vS _ _ _ _ _ b6.out,if_neg a6.out,qc5,a8.out,e1],by simpa using e2⟩
     case measure=>simp[qb2];omega
  ·obtain rfl:k=X.ws.length:=by omega
   gi_wp2
   go_ret;exact⟨true,rfl,Gk,⟨_,a7.out⟩,b7.out,xs,by rw[a8.out,xQ X.ws p m X.ws.length];simp,d7.out⟩
theorem q3j(X:vL)(O:Jo X):∀(m:Nat) (q:List Int),q.length+m=X.ws.length->q.Nodup->(∀x∈q,x∈X.ws)->∀pre G A,X.J pre G A->Pfx X pre (zu X.ws m q)->q1A X q G A->qaD Tryp.prog 154 #[ptA X.Bn,ptA X.Bl,ptA X.By,ptA X.Bu,ptA X.Bp] A (Rg X q (zu X.ws m q) pre G A)
 | 0,q,h,hn,hq=>q7q X O q (by omega) hn hq
 | m+1,q,h,hn,hq=>q7r X O m q h hn hq (q3j X O m)
end Go.Proofs.YtidgnkmjgioapaaGreat
end
section
namespace Go.Proofs.YtidgnkmjgioapaaGreat
open Go.RowKit Go.Shelf
theorem q11{F:Fence}(hd:F.depth=none)(k:Nat):F.room k:=λd h=>by rw[hd] at h;cases h
theorem q9l{F:Fence}(hd:F.depth=none){m m':Nat}{P:q8b}{l:Nat}{f:qbe}{tmps:Array q58}{assign body:qcm}{w:q3g}{R:Ending->q3g->Prop}
  (h:RoundIn F m P l f tmps assign body w R):RoundIn F m' P l f tmps assign body w R:=⟨h.1,λc cs _=>h.2 c cs (q11 hd _)⟩
theorem q8a{F:Fence}(hd:F.depth=none){m:Nat}(m':Nat){P:q8b}{l:Nat}{args:Array q58}{W:q3g}{R:Ending->q3g->Prop}(h:YieldAt F m P l args W R):YieldAt F m' P l args W R:=by
 obtain⟨fn,tmps,assign,body,hy,hR⟩:=h;exact⟨fn,tmps,assign,body,hy,q9l hd hR⟩
theorem q4G(n:Nat)(Bl:Nat)(b:Option qb9)(c:Nat)(ll ws:List Int)(hS:Zv ll ws)(h5:∀x∈ws,0<=x/\x<5)(l7:ws.Nodup)(g7:ws.length<=5)
  (l:Nat) (J Jx:List (List Int × q58)->(Nat->Prop)->q3g->Prop) (G0:Nat->Prop) (W:q3g) (k5:W.heap[Bl]?=some (.cells #[.slice b ll.length c] 29 (0,0))) (hI:qe 0 W.heap.size W (.slice b ll.length c) ll)
  (hB:¬ G0 Bl) (hF:∀s G A,J s G A->∀k,G k->k<A.heap.size) (hJ:∀s G A C,J s G A->Stp W.heap.size Bl G A C->J s G C) (hJx:∀s G A C,Jx s G A->Stp W.heap.size Bl G A C->Jx s G C)
  (hY:∀pre G x W1,J pre G W1->xpO ws x W1->(∃t,zu ws ws.length []=(pre++[x]).map qdE++t)->YieldAt Fence.wide n Tryp.prog l #[x.2] W1 λe W'=>∃G',(e=.returned (.bool true)/\J (pre++[x]) G' W'/\Bod W.heap.size Bl G G' W1 W')\/(e=.returned (.bool false)/\Jx (pre++[x]) G' W'/\Bod W.heap.size Bl G G' W1 W'))
  (h0:J [] G0 W) :
  qaD Tryp.prog 149 #[.func (.yield l) #[] #[],.pointer (some ⟨Bl,0,none⟩)] W λe W'=>(∃v,e=.returned v)/\((∃xs G,xs.map qdE=zu ws ws.length []/\J xs G W')\/(∃pre G,(∃t,zu ws ws.length []=pre.map qdE++t)/\Jx pre G W')):=by
 have k0:=qy k5;obtain⟨By,c3⟩:∃By,By=W.heap.size:=⟨_,rfl⟩
 obtain⟨W1,b7⟩:∃W1,W1=W.alloc (.cells #[.func (.yield l) #[] #[]] 51):=⟨_,rfl⟩
 have hg1:W.grownBy W1 none:=by rw[b7];exact q34 _ _ none
 have g5:W1.heap[By]?=some (.cells #[.func (.yield l) #[] #[]] 51 (0,0)):=by rw[b7,c3];exact q7j W _
 have b9:W1.heap.size=By+1:=by rw[b7,q8f,c3]
 have b0:=blk hg1 (by simp) k5;have c1:W1.cell? ⟨Bl,0,none⟩=some (.slice b ll.length c):=qa b0 rfl;have z1:=qn (o:=0) b0;have g6:Bl<W1.heap.size:=qy b0;have n6:=q1D ((hI.kept hg1 (by simp)).mono (q5m _) hg1.size);have m9:=q1D b7;have e7:=q1D c3;have n2:=q1D b9;have n9:=q1D hg1;have m8:=q1D g5;have l5:=q1D b0;clear b7 c3 b9 hg1 g5 b0 hI;go_enter Tryp.func149,Tryz.ntmps149;go_upto_region 1 with(fail)
 rw[<- e7.out,show W.alloc (.cells #[.func (.yield l) #[] #[]] 51)=W1 from m9.out.symm];go_upto_region 2 with(first
  | (go_at_call 135;refine(QF _ _ _ _).mono ?_;rintro e w2 ⟨rfl,rfl⟩)
  | (go_at_call 134;refine(hS W1.heap.size (.slice b ll.length c) _ (by simp) (by rw[jf];rfl) ((n6.out.alloc _).mono (q5m _) (by simp))).mono ?_;rintro e w2 ⟨v,rfl,e6,d5,hg2⟩;obtain⟨lb,lc,rfl,-,-⟩:=e6.cell;have c2:=(((q34 W1 (.cells #[.slice b ll.length c] 29) none).trans hg2).cell c1 (by simp));have z2:=(((q34 W1 (.cells #[.slice b ll.length c] 29) none).trans hg2).frozen_far _ g6 (by simp)).trans z1;have n4:=q1D e6;have b8:=q1D ((q34 W1 (.cells #[.slice b ll.length c] 29) none).trans hg2);have p5:=q1D d5;clear e6 d5 hg2))
 have hwl:=qy ((blk b8.out (by simp) l5.out));obtain⟨W4,d8⟩:∃W4,W4=w2.setCell ⟨Bl,0,none⟩ (.slice lb ws.length lc):=⟨_,rfl⟩
 rw[<- d8];have a7:=q1D d8;clear d8 c1 c2 z1 z2;have p4:∀(a:qb9) (fn:Fn) (x y:Array q58) (m:Mode) (w:q3g),(store a (.func fn x y) m).run Tryp.prog w=stored Tryp.prog w a (.func fn x y) m:=λa fn x y m w=>run_store _ w a _ m rfl;go_upto_region 6 with(fail)
 obtain⟨W8,Z⟩:∃W8,W8=(((W4.alloc (.cells #[.slice none 0 0] 29)).alloc (.cells #[.int .u8 0] 130)).alloc (.cells #[.nilFunc] 31)).alloc (.cells #[.func (.func 150) #[] #[.pointer (some ⟨W4.heap.size,0,none⟩),.pointer (some ⟨W4.heap.size+1,0,none⟩),.pointer (some ⟨W4.heap.size+1+1,0,none⟩)]] 82):=⟨_,rfl⟩
 have e8:(((W4.alloc (.cells #[.slice none 0 0] 29)).alloc (.cells #[.int .u8 0] 130)).alloc (.cells #[.nilFunc] 31)).alloc (.cells #[.func (.func 150) #[] #[.pointer (some ⟨W4.heap.size,0,none⟩),.pointer (some ⟨W4.heap.size+1,0,none⟩),.pointer (some ⟨W4.heap.size+1+1,0,none⟩)]] 82)=W8:=Z.symm;rw[e8];clear e8;obtain⟨S,a6⟩:∃S,S=W4.heap.size:=⟨_,rfl⟩
 rw[<- a6] at Z ⊢;have c8:W4.heap.size=w2.heap.size:=by rw[a7.out];simp[qci]
 have p3:=b8.out.size;have g9:W4.heap[Bl]?=some (.cells #[.slice lb ws.length lc] 29 (0,0)):=by rw[a7.out,qh (blk b8.out (by simp) l5.out)];rfl
 have e9:W4.heap[By]?=some (.cells #[.func (.yield l) #[] #[]] 51 (0,0)):=by
  rw[a7.out,qbi _ _ _ By (λe=>by have e':By=Bl:=e;have:=e7.out;omega)];exact blk b8.out (by simp) m8.out
 have ha:∀(w:q3g) (o:Obj) (k:Nat) (p:Obj),w.heap[k]?=some p->(w.alloc o).heap[k]?=some p:=λw o k p h=>qp h;have k6:=a6;have sA:∀(w:q3g) (o:Obj),(w.alloc o).heap.size=w.heap.size+1:=λw o=>q8f w o;have n8:W8.heap[S]?=some (.cells #[.slice none 0 0] 29 (0,0)):=by rw[Z,a6];exact ha _ _ _ _ (ha _ _ _ _ (ha _ _ _ _ (q7j W4 _)))
 have u8:W8.heap[S+1]?=some (.cells #[.int .u8 0] 130 (0,0)):=by
  rw[Z];refine ha _ _ _ _ (ha _ _ _ _ ?_);have:=q7j (W4.alloc (.cells #[.slice none 0 0] 29)) (.cells #[.int .u8 0] 130)
  rwa [sA,<- a6] at this
 have g8:W8.heap[S+2]?=some (.cells #[.nilFunc] 31 (0,0)):=by
  rw[Z];refine ha _ _ _ _ ?_;have:=q7j ((W4.alloc (.cells #[.slice none 0 0] 29)).alloc (.cells #[.int .u8 0] 130)) (.cells #[.nilFunc] 31)
  rwa [sA,sA,<- a6] at this
 have p8:W8.heap[S+3]?=some (.cells #[.func (.func 150) #[] #[.pointer (some ⟨S,0,none⟩),.pointer (some ⟨S+1,0,none⟩),.pointer (some ⟨S+2,0,none⟩)]] 82 (0,0)):=by
  rw[Z];have:=q7j (((W4.alloc (.cells #[.slice none 0 0] 29)).alloc (.cells #[.int .u8 0] 130)).alloc (.cells #[.nilFunc] 31)) (.cells #[.func (.func 150) #[] #[.pointer (some ⟨S,0,none⟩),.pointer (some ⟨S+1,0,none⟩),.pointer (some ⟨S+1+1,0,none⟩)]] 82)
  rwa [sA,sA,sA,<- a6] at this
 have h9:W4.grownBy W8 none:=by
  rw[Z];exact(((q34 _ _ none).trans (q34 _ _ none)).trans (q34 _ _ none)).trans (q34 _ _ none)
 have cg:W8.cell? ⟨S+1+1,0,none⟩=some .nilFunc:=qa g8 rfl;have zg:W8.frozen? ⟨S+1+1,0,none⟩=false:=qn g8;have m4:=q1D n8;have l9:=q1D u8;have m5:=q1D g8;have m3:=q1D p8;have a9:=q1D h9;have l4:=q1D a6;have n3:=q1D g9;have m7:=q1D e9;have k9:=q1D c8;clear n8 u8 g8 p8 h9 a6 g9 e9 c8 Z ha sA k6;go_upto_region 7 with(fail)
 obtain⟨C,hC⟩:∃C,C=W8.setCell ⟨S+2,0,none⟩ (.func (.func 154) #[] #[.pointer (some ⟨S,0,none⟩),.pointer (some ⟨Bl,0,none⟩),.pointer (some ⟨By,0,none⟩),.pointer (some ⟨S+1,0,none⟩),.pointer (some ⟨S+3,0,none⟩)]):=⟨_,rfl⟩
 have eC:W8.setCell ⟨S+1+1,0,none⟩ (.func (.func 154) #[] #[.pointer (some ⟨S,0,none⟩),.pointer (some ⟨Bl,0,none⟩),.pointer (some ⟨By,0,none⟩),.pointer (some ⟨S+1,0,none⟩),.pointer (some ⟨S+1+1+1,0,none⟩)])=C:=hC.symm;rw[eC];clear eC cg zg;have b6:=qg W8 (S+2) 0 (.func (.func 154) #[] #[.pointer (some ⟨S,0,none⟩),.pointer (some ⟨Bl,0,none⟩),.pointer (some ⟨By,0,none⟩),.pointer (some ⟨S+1,0,none⟩),.pointer (some ⟨S+3,0,none⟩)]);rw[<- hC] at b6;have hg2:C.heap[S+2]?=some (.cells #[.func (.func 154) #[] #[.pointer (some ⟨S,0,none⟩),.pointer (some ⟨Bl,0,none⟩),.pointer (some ⟨By,0,none⟩),.pointer (some ⟨S+1,0,none⟩),.pointer (some ⟨S+3,0,none⟩)]] 31 (0,0)):=by rw[hC,qh m5.out];rfl
 have k8:∀k o,k≠S+2->W8.heap[k]?=some o->C.heap[k]?=some o:=λk o hk h=>blk b6 (by simpa using hk) h;have k4:∀k o,W4.heap[k]?=some o->C.heap[k]?=some o:=λk o h=>k8 k o (by have:=qy h;have:=l4.out;omega) (blk a9.out (by simp) h);have k7:=e7.out;have b9:=n2.out;have hS:=l4.out;have hsz:=k9.out;have m6:C.heap.size=W8.heap.size:=by rw[hC];simp[qci]
 have l6:=a9.out.size;have hst:Stp W.heap.size Bl G0 W C:=by
  have h2:=n9.out.trans b8.out;refine⟨?_,?_,?_,?_,λk hk hc=>?_⟩
  ·rw[hC];exact a9.out.os.trans (by rw[a7.out];exact h2.os)
  ·rw[hC];exact a9.out.tape.trans (by rw[a7.out];exact h2.tape)
  ·rw[hC];exact a9.out.output.trans (by rw[a7.out];exact h2.output)
  ·omega
  ·have l8:k≠Bl:=by
    rintro rfl;rcases hc with hc | hc
    ·exact hc.2 rfl
    ·exact hB hc
   have e2:=h2.block k hk (by simp);have e4:W4.heap[k]?=w2.heap[k]?:=by rw[a7.out];exact qbi _ _ _ k (λe=>l8 e)
   have e8:=a9.out.block k (by omega) (by simp);rw[b6.block k (by omega) (by simp;omega),e8,e4,e2]
 have a8:∀k,W.heap.size<=k->¬ G0 k:=λk hk h=>by have:=hF _ _ _ h0 k h;omega
 obtain⟨X,hX⟩:∃X:vL,X={ Bl,By,Bn:=S,Bu:=S+1,Bg:=S+2,Bp:=S+3,n1:=W.heap.size,l,ws,lb,lc,J,Jx,T:=zu ws ws.length [] }:=⟨_,rfl⟩
 have hO:Jo X:=by
  rw[hX];exact⟨hF,k0,by show W.heap.size<=By;omega,by show By<S;omega,by show S<S+1;omega,by show S+1<S+2;omega,by show S+2<S+3;omega,hJ,hJx,h5,l7,g7,λm pre G x A h1 h2 h3=>q8a rfl m (hY pre G x A h1 h2 (by obtain⟨t,ht⟩:=h3;exact⟨t,by rw[qc5,qc1];exact ht⟩))⟩
 have d6:qe W.heap.size C.heap.size C (.slice lb ws.length lc) ws:=by
  have h:=n4.out;rw[q8f] at h;have h4:=h.kept (qg w2 Bl 0 (.slice lb ws.length lc)) (λR e=>by cases e;left;omega);rw[<- a7.out] at h4;have h8:=h4.kept a9.out (by simp);have hc:=h8.kept b6 (λR e=>by cases e;right;omega);exact hc.mono (by omega) (by omega)
 have d9:It3 X [] G0 C lb lc (.slice none 0 0):=by
  rw[hX];refine⟨k4 _ _ n3.out,d6,λB o e hne=>?_,k4 _ _ m7.out,k8 (S+1) _ (by omega) l9.out,hg2,k8 (S+3) _ (by omega) m3.out,k8 S _ (by omega) m4.out,qcb _ _ _ _,λg e=>by simp[qak] at e,λ_ _=>rfl,hB,a8 _ (by show W.heap.size<=By;omega),a8 _ (by show W.heap.size<=S;omega),a8 _ (by show W.heap.size<=S+1;omega),a8 _ (by show W.heap.size<=S+2;omega),a8 _ (by show W.heap.size<=S+3;omega)⟩;obtain⟨base,cap,e',hl,hr⟩:=d6;cases e';obtain⟨B',o',cs,fr,e1,e2,e3,e4,e5⟩:=hr hne;rw[e] at e1;cases e1;exact a8 _ e2
 have d7:=q3j X hO ws.length [] (by rw[hX];simp) (by simp) (by simp) [] G0 C (by rw[hX];exact hJ _ _ _ _ h0 hst) (by rw[hX];exact⟨[],by simp⟩) ⟨_,by rw[hX] at d9 ⊢;exact d9⟩;rw[hX] at d7;have cG:C.cell? ⟨S+1+1,0,none⟩=some (.func (.func 154) #[] #[.pointer (some ⟨S,0,none⟩),.pointer (some ⟨Bl,0,none⟩),.pointer (some ⟨By,0,none⟩),.pointer (some ⟨S+1,0,none⟩),.pointer (some ⟨S+3,0,none⟩)]):=qa hg2 rfl;have n7:=q1D d7;clear d7 d9 hO hX d6 a8 hst m6 l6 hC b6 hg2 k8 k4 k7 b9 hS hsz;go_wp2_with (first | (go_at_call 154;refine(n7.out).mono ?_;rintro e w9 ⟨b',rfl,hR⟩));go_end0;refine⟨⟨_,rfl⟩,?_⟩;obtain⟨G9,-,-,c9⟩:=hR;cases b' with
 | true =>
  obtain⟨xs,e1,e2⟩:=c9;exact .inl ⟨xs,G9,e1,by simpa using e2⟩
 | false =>
  obtain⟨xs,t,e1,e2⟩:=c9;exact .inr ⟨xs,G9,⟨t,e1⟩,by simpa using e2⟩
theorem Yg(b:Option qb9)(n c:Nat)(w:q3g):qaD Tryp.prog 117 #[.slice b n c] w λe w'=>e=.returned (.func (.func 149) #[] #[.pointer (some ⟨w.heap.size,0,none⟩)])/\w'=w.alloc (.cells #[.slice b n c] 29):=by
 go_enter Tryp.func117,Tryz.ntmps117;go_wp2;go_ret;exact⟨rfl,rfl⟩
theorem Zi(n:Nat)(Bl:Nat)(b:Option qb9)(c:Nat)(ll ws:List Int)(hS:Zv ll ws)(h5:∀x∈ws,0<=x/\x<5)(a7:ws.Nodup)(Z:ws.length<=5)(w0:q3g)(a6:w0.heap[Bl]?=some (.cells #[.slice b ll.length c] 29 (0,0)))(hI:qe 0 w0.heap.size w0 (.slice b ll.length c) ll) :
  SeqX Fence.wide n Tryp.prog 149 #[.pointer (some ⟨Bl,0,none⟩)] (λx:List Int × q58=>#[x.2]) (xpO ws) (λxs=>xs.map qdE=zu ws ws.length []) (λpre=>∃t,zu ws ws.length []=pre.map qdE++t) Bl w0:=λl J Jx G0 W hb hB hF hJ hJx hY h0 =>
 qcx.2 (q4G (n - 1) Bl b c ll ws hS h5 a7 Z l J Jx G0 W ((hb.block Bl (qy a6)).trans a6) ((hI.kept (vE hb) (by simp)).mono (q5m _) hb.size) hB hF hJ hJx hY h0)
theorem q3m(lo hi:Nat)(yv qv:q58)(ps:List Par)(lim:Int)(l:List Int)(w:q3g)(e7:jg lo hi w yv ps lim)(hI:qe lo hi w qv l)(hhi:hi<=w.heap.size)(hok:YOk ps lim)(hp:PIn ps l) :
  qaD Tryp.prog 114 #[yv,qv] w λe w'=>e=.returned (.bool (decide (zj ps l<=lim) && qw ps (pre Par.mx ps ps.length) l))/\w.grownBy w' none:=by
 obtain⟨pv,rfl,hP⟩:=e7;obtain⟨yb,yc,rfl,g8,-⟩:=hP.cell;obtain⟨base,cap,rfl,g9,-⟩:=hI.cell;obtain⟨Y,b8⟩:∃Y,Y=w.heap.size:=⟨_,rfl⟩
 obtain⟨w3,b0⟩:∃w3,w3=w.alloc (.cells #[.slice yb ps.length yc,.int .i64 lim] 91):=⟨_,rfl⟩
 have a8:w.grownBy w3 none:=by rw[b0];exact q34 _ _ none
 have d8:w3.heap[Y]?=some (.cells #[.slice yb ps.length yc,.int .i64 lim] 91 (0,0)):=by rw[b0,b8];exact q7j w _
 have e6:=q1D d8;have e5:=q1D a8;have g6:=q1D (hI.kept a8 (by simp));have g5:=q1D (hP.kept a8 (by simp));have e9:=q1D b0;have e8:=q1D b8;have HY:=q1D hok;have a6:=q1D hp;have a7:hi<=w3.heap.size:=q87 hhi a8.size;clear a8 d8 b0 b8 hI hP hok hp;go_enter Tryp.func114,Tryz.ntmps114;go_upto_region 1 with(fail)
 rw[<- e8.out,show w.alloc (.cells #[.slice yb ps.length yc,.int .i64 lim] 91)=w3 from e9.out.symm];have HT:=q1D (q8j w3 none);have c9:∀W,w3.grownBy W none->jg lo hi W (.agg #[.slice yb ps.length yc,.int .i64 lim]) ps lim:=λW h=>⟨_,rfl,g5.out.kept h (by simp)⟩
 have d6:∀W,w3.grownBy W none->qe lo hi W (.slice base l.length cap) l:=λW h=>g6.out.kept h (by simp);have d5:∀W,w3.grownBy W none->W.cell? ⟨Y,0,none⟩=some (.slice yb ps.length yc)/\W.cell? ⟨Y,1,none⟩=some (.int .i64 lim):=λW h =>
  ⟨qa (blk h (by simp) e6.out) rfl,qa (blk h (by simp) e6.out) rfl⟩
 have b6:=q1D c9;have c3:=q1D d6;have a9:=q1D d5;clear c9 d6 d5;have SC:=q1D (a9.out w3 (q8j w3 none));obtain⟨gx,b7⟩:∃gx,gx=pre Par.mx ps ps.length:=⟨_,rfl⟩
 have d7:∀i,0<=gx i/\gx i<=1000:=by rw[b7];exact HY.out.mx
 have e4:=q1D b7;have g7:=q1D d7;clear b7 d7;have HC:=q1D (show q1o ps lim l=if zj ps l<=lim then 0 else 10 from rfl);by_cases Z:zj ps l<=lim
 ·have HD:=q1D (show decide (zj ps l<=lim)=true by simpa using Z)
  have c8:=q1D (HC.out.trans (if_pos Z));clear Z;go_region_held3 (λw'=>w'.cell? ⟨Y,0,none⟩=some (.slice yb ps.length yc)/\w'.cell? ⟨Y,1,none⟩=some (.int .i64 lim))
   (first | exact SC.out)
   (first
    | (go_at_call 133;refine(kV lo hi _ _ ps lim l _ (b6.out _ (by first | exact HT.out | exact HT.out.trans (qc _ _))) (c3.out _ (by first | exact HT.out | exact HT.out.trans (qc _ _))) (q87 a7 (by first | exact HT.out.size | exact(HT.out.trans (qc _ none)).size)) HY.out.len a6.out.ok a6.out.nd (λp hp=>by have:=HY.out.each p hp;omega) a6.out.len).mono ?_;rintro e w5 ⟨rfl,hg⟩;rw[c8.out];replace HT:=q1D (show w3.grownBy w5 none by first | exact HT.out.trans hg | exact(HT.out.trans (qc _ _)).trans hg);replace SC:=q1D (a9.out w5 HT.out);clear hg)
    | (go_at_call 92;refine(xT lo hi _ ps lim _ (b6.out _ (by first | exact HT.out | exact HT.out.trans (qc _ _))) (q87 a7 (by first | exact HT.out.size | exact(HT.out.trans (qc _ none)).size)) HY.out.len).mono ?_;rintro e w5 ⟨rfl,hg⟩;rw[<- e4.out];replace HT:=q1D (show w3.grownBy w5 none by first | exact HT.out.trans hg | exact(HT.out.trans (qc _ _)).trans hg);replace SC:=q1D (a9.out w5 HT.out);clear hg)
    | (go_at_call 96;refine(kl lo hi _ _ ps lim l _ _ (b6.out _ (by first | exact HT.out | exact HT.out.trans (qc _ _))) (c3.out _ (by first | exact HT.out | exact HT.out.trans (qc _ _))) (q87 a7 (by first | exact HT.out.size | exact(HT.out.trans (qc _ none)).size)) HY.out.len a6.out.ok (by have:=a6.out.len;omega) g7.out).mono ?_;rintro e w5 ⟨rfl,hg⟩;replace HT:=q1D (show w3.grownBy w5 none by first | exact HT.out.trans hg | exact(HT.out.trans (qc _ _)).trans hg);replace SC:=q1D (a9.out w5 HT.out);clear hg))
  all_goals
   have HV:=q1D (show qw ps (pre Par.mx ps ps.length) l=qw ps gx l by rw[e4.out]);generalize qw ps gx l=z at HV ⊢;go_wp2;go_ret;exact⟨by rw[HV.out,HD.out];rfl,e5.out.trans HT.out⟩
 ·have HD:=q1D (show decide (zj ps l<=lim)=false by simpa using Z)
  have c8:=q1D (HC.out.trans (if_neg Z));clear Z;refine qR 11 (λw'=>w'.cell? ⟨Y,0,none⟩=some (.slice yb ps.length yc)/\w'.cell? ⟨Y,1,none⟩=some (.int .i64 lim)) (by kernel_rfl) (by kernel_rfl) SC.out (λb9=>?_);simp only[q8l,q9k,q9F,qbA,q9m,qao,qat,qbd,qae,q9y];refine tk 0 ?_;try go_frame
  refine tk 1 ?_;try go_frame
  refine rdy [2] ?_;refine cns 2 (λK hK=>?_) ?_
  ·go_simp
   go_at_call 133;refine(kV lo hi _ _ ps lim l _ (b6.out _ (HT.out.trans (qc _ _))) (c3.out _ (HT.out.trans (qc _ _))) (q87 a7 (HT.out.trans (qc _ none)).size) HY.out.len a6.out.ok a6.out.nd (λp hp=>by have:=HY.out.each p hp;omega) a6.out.len).mono ?_;rintro e w5 ⟨rfl,hg⟩;rw[c8.out];have d9:=q1D ((HT.out.trans (qc _ _)).trans hg);clear hg;refine hK.out _ _ (a9.out w5 d9.out) (λb9=>?_);clear hK K;try go_frame
   refine tk 3 ?_;try go_frame
   refine tk 4 ?_;try go_frame
   refine tku 5 ?_;try go_frame
   refine tku 6 ?_;try go_frame
   refine tku 7 ?_;try go_frame
   refine tku 8 ?_;try go_frame
   refine tku 9 ?_;try go_frame
   refine tk 10 ?_;try go_frame
   refine⟨by kernel_rfl,?_⟩;simp only[qbh,qbH];go_wp2;go_ret;exact⟨by rw[HD.out];rfl,e5.out.trans d9.out⟩
  ·exact qm.nil
def jN(ps:List Par)(lim:Int)(l:List Int):Bool:=decide (zj ps l<=lim) && qw ps (pre Par.mx ps ps.length) l
theorem q1e(lo hi:Nat)(yv qv:q58)(ps:List Par)(lim:Int)(l:List Int)(w:q3g)(Z:jg lo hi w yv ps lim)(hI:qe lo hi w qv l)(hhi:hi<=w.heap.size)(hok:YOk ps lim)(hp:POk ps lim l) :
  qaD Tryp.prog 114 #[yv,qv] w λe w'=>e=.returned (.bool (qw ps (pre Par.mx ps ps.length) l))/\w.grownBy w' none:=by
 have h:=q3m lo hi yv qv ps lim l w Z hI hhi hok hp.pin
 rwa [show decide (zj ps l<=lim)=true by simpa using hp.tall,Bool.true_and] at h
end Go.Proofs.YtidgnkmjgioapaaGreat
end
section
namespace Go.Proofs.YtidgnkmjgioapaaGreat
open Go.RowKit Go.Shelf
attribute [local go_sem] Oper.semAt_some
structure Frm(w3:q3g)(Bl:Nat)(W:q3g):Prop where
 os:W.os=w3.os
 tape:W.tape=w3.tape
 output:W.output=w3.output
 size:w3.heap.size<=W.heap.size
 keep:∀k,k<w3.heap.size->k≠Bl->W.heap[k]?=w3.heap[k]?
theorem Frm.refl(w3:q3g)(Bl:Nat):Frm w3 Bl w3:=⟨rfl,rfl,rfl,q5m _,λ_ _ _=>rfl⟩
theorem Frm.stp{w3:q3g}{Bl:Nat}{G:Nat->Prop}{A C:q3g}(h:Frm w3 Bl A)(hs:Stp w3.heap.size Bl G A C):Frm w3 Bl C :=
 ⟨hs.os.trans h.os,hs.tape.trans h.tape,hs.output.trans h.output,q87 h.size hs.size,λk hk hn=>(hs.keep k (q8m hk h.size) (.inl ⟨hk,hn⟩)).trans (h.keep k hk hn)⟩
theorem Frm.grown{w3:q3g}{Bl:Nat}{A C:q3g}(h:Frm w3 Bl A)(hg:A.grownBy C none):Frm w3 Bl C :=
 ⟨hg.os.trans h.os,hg.tape.trans h.tape,hg.output.trans h.output,q87 h.size hg.size,λk hk hn=>(hg.block k (q8m hk h.size) (by simp)).trans (h.keep k hk hn)⟩
theorem q0h{w w3 C E:q3g}{D:Nat}(Z:w.grownBy w3 none)(o:C.os=w3.os/\C.tape=w3.tape/\C.output=w3.output/\w3.heap.size<=C.heap.size/\∀k,k<w.heap.size->C.heap[k]?=w3.heap[k]?)(hg:C.grownBy E (some D))(hD:w.heap.size<=D):w.grownBy E none :=
 ⟨hg.os.trans (o.1.trans Z.os),hg.tape.trans (o.2.1.trans Z.tape),hg.output.trans (o.2.2.1.trans Z.output),q87 Z.size (q87 o.2.2.2.1 hg.size),λk hk _ =>
  (hg.block k (q8m hk (q87 Z.size o.2.2.2.1)) (by intro e;cases e;omega)).trans ((o.2.2.2.2 k hk).trans (Z.block k hk (by simp)))⟩
def Kh:Nat->Prop:=λ_=>False
theorem q5u{ws:List Int}(x:List Int × q58)(A:q3g)(l:Nat)(o o':Obj)(h:A.heap[l]?=some o)(hc:o.isCells=false)(hx:xpO ws x A):xpO ws x (A.putObj l o'):=by
 obtain⟨⟨base,cap,e,hl,hr⟩,h2⟩:=hx;refine⟨⟨base,cap,e,hl,λhne=>?_⟩,h2⟩;obtain⟨B,o2,cs,fr,e1,e2,e3,e4,e5⟩:=hr hne;have hg:=grownBy_putObj' A l o';exact⟨B,o2,cs,fr,e1,e2,q8m e3 hg.size,(hg.block B e3 (λe=>by cases e;rw[h] at e4;cases e4;cases hc)).trans e4,e5⟩
theorem q7t(yv qv:q58)(ps:List Par)(lim:Int)(ll ws:List Int)(w:q3g)(l9:jg 0 w.heap.size w yv ps lim)(hI:qe 0 w.heap.size w qv ll)(hok:YOk ps lim)(hS:Zv ll ws)(h5:∀x∈ws,0<=x/\x<5)(l8:ws.Nodup)(g6:ws.length<=5)
  (l7:∀x:List Int,x.length=ws.length->x.Nodup->(∀y∈x,y∈ws)->PIn ps x) :
  qaD Tryp.prog 102 #[yv,qv] w λe w'=>w.grownBy w' none/\((∃x v,(zu ws ws.length []).find? (jN ps lim)=some x/\e=.returned (.tuple #[v,.bool true])/\qe w.heap.size w'.heap.size w' v x) \/
   ((zu ws ws.length []).find? (jN ps lim)=none/\e=.returned (.tuple #[.slice none 0 0,.bool false]))):=by
 obtain⟨pv,rfl,hP⟩:=l9;obtain⟨yb,yc,rfl,p4,-⟩:=hP.cell;obtain⟨base,cap,rfl,p6,-⟩:=hI.cell;obtain⟨Y,a9⟩:∃Y,Y=w.heap.size:=⟨_,rfl⟩
 refine(qcx (n:=6)).1 ?_;refine callsIn_of_wp_marks Tryp.func102 rfl trivial ?_ rfl;simp only[Tryz.ntmps102,qa0,q8l,q9k,q9F,qbA,qao,qat,qbd,qdi,qae,q9y]
 gi_wp2_with (first | (refine⟨trivial,?_⟩;gi_at_call 117;refine(qcx.2 (Yg _ _ _ _)).mono ?_;rintro e w2 ⟨rfl,rfl⟩))
 obtain⟨w3,a8⟩:∃w3,w3=(((w.alloc (.cells #[.slice yb ps.length yc,.int .i64 lim] 91)).alloc (.cells #[.slice none 0 0] 29)).alloc (.cells #[.bool false] 4)).alloc (.cells #[.slice base ll.length cap] 29):=⟨_,rfl⟩
 have e3:(((w.alloc (.cells #[.slice yb ps.length yc,.int .i64 lim] 91)).alloc (.cells #[.slice none 0 0] 29)).alloc (.cells #[.bool false] 4)).alloc (.cells #[.slice base ll.length cap] 29)=w3:=a8.symm;rw[e3];clear e3;rw[<- a9];have sA:∀(w:q3g) (o:Obj),(w.alloc o).heap.size=w.heap.size+1:=λw o=>q8f w o;have ha:∀(w:q3g) (o:Obj) (k:Nat) (p:Obj),w.heap[k]?=some p->(w.alloc o).heap[k]?=some p:=λw o k p h=>qp h;have d5:w.grownBy w3 none:=by
  rw[a8];exact(((q34 _ _ none).trans (q34 _ _ none)).trans (q34 _ _ none)).trans (q34 _ _ none)
 have l6:w3.heap.size=Y+4:=by rw[a8,sA,sA,sA,sA,a9]
 have y3:w3.heap[Y]?=some (.cells #[.slice yb ps.length yc,.int .i64 lim] 91 (0,0)):=by rw[a8,a9];exact ha _ _ _ _ (ha _ _ _ _ (ha _ _ _ _ (q7j w _)))
 have r3:w3.heap[Y+1]?=some (.cells #[.slice none 0 0] 29 (0,0)):=by
  rw[a8];refine ha _ _ _ _ (ha _ _ _ _ ?_);have:=q7j (w.alloc (.cells #[.slice yb ps.length yc,.int .i64 lim] 91)) (.cells #[.slice none 0 0] 29)
  rwa [sA,<- a9] at this
 have b3:w3.heap[Y+2]?=some (.cells #[.bool false] 4 (0,0)):=by
  rw[a8];refine ha _ _ _ _ ?_;have:=q7j ((w.alloc (.cells #[.slice yb ps.length yc,.int .i64 lim] 91)).alloc (.cells #[.slice none 0 0] 29)) (.cells #[.bool false] 4)
  rwa [sA,sA,<- a9] at this
 have l3:w3.heap[Y+3]?=some (.cells #[.slice base ll.length cap] 29 (0,0)):=by
  rw[a8];have:=q7j (((w.alloc (.cells #[.slice yb ps.length yc,.int .i64 lim] 91)).alloc (.cells #[.slice none 0 0] 29)).alloc (.cells #[.bool false] 4)) (.cells #[.slice base ll.length cap] 29)
  rwa [sA,sA,sA,<- a9] at this
 have m4:=(hI.kept d5 (by simp)).mono (q5m _) d5.size;have n6:=q1D ((hP.kept d5 (by simp)));have k6:=q1D r3;have k9:=q1D b3;have m8:=q1D y3;have p9:=q1D l6;have k7:=q1D d5;have d8:=q1D a9;clear sA ha a8 hI hP r3 b3 y3 d5 a9;refine vd rfl (by omega) (gf:=149) (lb:=#[.pointer (some ⟨Y+3,0,none⟩)]) rfl trivial (enters_of Tryp.func149 (by kernel_rfl) rfl)
  (Zi 5 (Y+3) base cap ll ws hS h5 l8 g6 w3 l3 m4) (Below.refl _ _) (λ_=>rfl) (G0:=Kh) (λh=>h) (by omega) (q5u)
  (λpr G W=>(∀x∈pr.map qdE,jN ps lim x=false)/\G=Kh/\Frm w3 (Y+3) W)
  (λc pr G W=>c=.ret/\∃q x v lo hi,pr.map qdE=q++[x]/\(∀y∈q,jN ps lim y=false)/\jN ps lim x=true/\(W.os=w3.os/\W.tape=w3.tape/\W.output=w3.output/\w3.heap.size<=W.heap.size/\∀k,k<Y->W.heap[k]?=w3.heap[k]?) /\
   W.heap[Y+1]?=some (.cells #[v] 29 (0,0))/\W.heap[Y+2]?=some (.cells #[.bool true] 4 (0,0))/\qe lo hi W v x/\(∀k,lo<=k->k<hi->G k)/\hi<=W.heap.size/\Y<=lo)
  (λs G A h k hk=>by rw[h.2.1] at hk;exact hk.elim)
  (λs G A C h hst=>⟨h.1,h.2.1,h.2.2.stp hst⟩)
  (λc s G A C h hst=>by
   obtain⟨hc,q,x,v,lo,hi,h1,h2,h3,⟨o1,o2,o3,o4,o5⟩,h4,h5,h6,h7,h8,h9⟩:=h;refine⟨hc,q,x,v,lo,hi,h1,h2,h3,⟨hst.os.trans o1,hst.tape.trans o2,hst.output.trans o3,q87 o4 hst.size,λk hk=>(hst.keep k (by omega) (.inl ⟨by omega,by omega⟩)).trans (o5 k hk)⟩,(hst.keep _ (qy h4) (.inl ⟨by omega,by omega⟩)).trans h4,(hst.keep _ (qy h5) (.inl ⟨by omega,by omega⟩)).trans h5,?_,h7,q87 h8 hst.size,h9⟩;obtain⟨b',c',e,hl,hr⟩:=h6;refine⟨b',c',e,hl,λhne=>?_⟩;obtain⟨B,o,cs,fr,e1,e2,e3,e4,e5⟩:=hr hne;exact⟨B,o,cs,fr,e1,e2,e3,(hst.keep B (by omega) (.inr (h7 B e2 e3))).trans e4,e5⟩)
  ⟨by simp,rfl,Frm.refl _ _⟩
  (λx=>{ tmps:=#[.agg #[.slice yb ps.length yc,.int .i64 lim],.slice base ll.length cap,.pointer (some ⟨Y,0,none⟩),q5s,.pointer (some ⟨Y+1,0,none⟩),.pointer (some ⟨Y+1+1,0,none⟩),x.2,.slice base ll.length cap,.func (.func 149) #[] #[.pointer (some ⟨Y+1+1+1,0,none⟩)],x.2,q5s,q5s,q5s,q5s,q5s],defers:=[] }) ?assign ?body ?done ?stop
 case assign =>
  intro l x W K hK
  gi_wp2
  exact hK
 case body =>
  rintro l pr G x W ⟨c8,rfl,Z⟩ hx -
  have e6:=(Z.keep Y (by omega) (by omega)).trans m8.out;have g5:=(Z.keep (Y+1) (by omega) (by omega)).trans k6.out;have g9:=(Z.keep (Y+2) (by omega) (by omega)).trans k9.out;have k0:qr 0 W.heap.size W (.slice yb ps.length yc) ps:=by
   obtain⟨b',c',e,hl,hr⟩:=n6.out;refine⟨b',c',e,hl,λhne=>?_⟩;obtain⟨B,o,cs,fr,e1,e2,e3,e4,e5⟩:=hr hne;have:=d8.out;have:=Z.size;exact⟨B,o,cs,fr,e1,e2,by omega,(Z.keep B (by omega) (by omega)).trans e4,e5⟩
  obtain⟨d6,b0⟩:=hx;have c3:=l7 x.1 b0.1 b0.2.1 b0.2.2.1;have hxl:x.1.length<=5:=by have:=b0.1;omega
  obtain⟨x1,x2⟩:=x;obtain⟨xb,xc,e9,-,-⟩:=d6.cell;dsimp only at e9 c3 hxl b0;subst e9;have c1:W.cell? ⟨Y,0,none⟩=some (.slice yb ps.length yc):=qa e6 rfl;have c2:W.cell? ⟨Y,1,none⟩=some (.int .i64 lim):=qa e6 rfl;obtain⟨z,hz⟩:∃z,z=jN ps lim x1:=⟨_,rfl⟩
  have g8:qaD Tryp.prog 114 #[.agg #[.slice yb ps.length yc,.int .i64 lim],.slice xb x1.length xc] W λe w'=>e=.returned (.bool z)/\W.grownBy w' none:=by
   rw[hz];exact q3m 0 W.heap.size _ _ ps lim x1 W ⟨_,rfl,k0⟩ d6 (q5m _) hok c3
  have k8:=q1D g8;have HZ:=q1D hz;have m9:=q1D (show qe 0 W.heap.size W (.slice xb x1.length xc) x1 from d6);have n2:=q1D b0;have a6:=q1D Z;have d9:=q1D c8;have n3:=q1D g5;have n9:=q1D g9;clear g8 hz d6 b0 Z c8 g5 g9 e6 k0 c3;cases z with
  | false =>
   gi_wp2_with (first | (refine⟨trivial,?_⟩;gi_at_call 114;refine(CallsIn.inRound l (qcx.2 k8.out)).mono ?_;rintro e w5 ⟨rfl,b7⟩))
   refine⟨Kh,⟨b7.tape,b7.size,λk hk _ _=>b7.block k hk (by simp),λk hk=>hk.elim⟩,?_,rfl,a6.out.grown b7⟩;intro y hy;rw[qc5] at hy;rcases qcz.1 hy with h | h
   ·exact d9.out y h
   ·have e:y=x1:=by simpa using h
    rw[e,<- HZ.out]
  | true =>
   have p5:=a6.out.size
   gi_wp2_with (first
    | (refine⟨trivial,?_⟩;gi_at_call 114;refine(CallsIn.inRound l (qcx.2 k8.out)).mono ?_;rintro e w5 ⟨rfl,b7⟩;have a7:=q1D b7;clear b7)
    | (refine⟨trivial,?_⟩;gi_at_call 84;refine(CallsIn.inRound l (qcx.2 (ZW 0 w5.heap.size _ x1 w5 ((m9.out.kept a7.out (by simp)).mono (q5m _) a7.out.size) (q5m _) n2.out.2.2.2 (by omega)))).mono ?_;rintro e w6 ⟨v',rfl,d7,e8⟩;obtain⟨vb,vc,rfl,-,-⟩:=e8.cell;have r6:=blk (a7.out.trans d7) (by simp) n3.out;have b6:=blk (a7.out.trans d7) (by simp) n9.out;have m7:=qa (o:=0) r6 rfl;have l5:=qn (o:=0) r6;have m6:=qa (o:=0) b6 rfl;have l4:=qn (o:=0) b6;have b9:=q1D d7;have n8:=q1D e8;have n4:=q1D r6;have p3:=q1D b6;clear d7 e8 r6 b6))
   have p8:=a7.out.size;have p7:=b9.out.size;have e7:=d8.out;obtain⟨C,hC⟩:∃C,C=(w6.setCell ⟨Y+1,0,none⟩ (.slice vb x1.length vc)).setCell ⟨Y+2,0,none⟩ (.bool true):=⟨_,rfl⟩
   have eC:(w6.setCell ⟨Y+1,0,none⟩ (.slice vb x1.length vc)).setCell ⟨Y+1+1,0,none⟩ (.bool true)=C:=hC.symm;rw[eC];have b8:∀k,k≠Y+1->k≠Y+2->C.heap[k]?=w6.heap[k]?:=λk k1 k2=>by
    rw[hC];exact(qbi _ _ _ k (λe=>k2 e)).trans (qbi _ _ _ k (λe=>k1 e))
   have cr:C.heap[Y+1]?=some (.cells #[.slice vb x1.length vc] 29 (0,0)):=by
    rw[hC,qbi _ _ _ (Y+1) (λe=>by have e':Y+1=Y+2:=e;omega),qh n4.out];rfl
   have cb:C.heap[Y+2]?=some (.cells #[.bool true] 4 (0,0)):=by
    rw[hC,qh ((qbi _ _ _ (Y+2) (λe=>by have e':Y+2=Y+1:=e;omega)).trans p3.out)];rfl
   have cs:C.heap.size=w6.heap.size:=by rw[hC];simp[qci]
   have k5:∀k,k<W.heap.size->w6.heap[k]?=W.heap[k]?:=λk hk=>(b9.out.block k (by omega) (by simp)).trans (a7.out.block k hk (by simp));refine⟨λk=>w5.heap.size<=k/\k<w6.heap.size,⟨?_,by omega,λk hk hn _=>?_,λk hk=>.inr (by have:=hk.1;omega)⟩,rfl,pr.map qdE,x1,.slice vb x1.length vc,w5.heap.size,w6.heap.size,by simp,d9.out,HZ.out.symm,⟨?_,?_,?_,by omega,λk hk=>?_⟩,cr,cb,?_,λk h1 h2=>⟨h1,h2⟩,by omega,by omega⟩
   ·rw[hC];exact b9.out.tape.trans a7.out.tape
   ·rw[b8 k (by omega) (by omega)]
    exact k5 k hk
   ·rw[hC];exact(b9.out.os.trans a7.out.os).trans a6.out.os
   ·rw[hC];exact(b9.out.tape.trans a7.out.tape).trans a6.out.tape
   ·rw[hC];exact(b9.out.output.trans a7.out.output).trans a6.out.output
   ·rw[b8 k (by omega) (by omega),k5 k (by omega)]
    exact a6.out.keep k (by omega) (by omega)
   ·obtain⟨b',c',e,hl,hr⟩:=n8.out
    refine⟨b',c',e,hl,λhne=>?_⟩;obtain⟨B,o,cs',fr,e1,e2,e3,e4,e5⟩:=hr hne;exact⟨B,o,cs',fr,e1,e2,e3,(b8 B (by omega) (by omega)).trans e4,e5⟩
 case done =>
  rintro D ys G W hD hxs ⟨c8,rfl,Z⟩ hK m5;have r6:=(Z.keep (Y+1) (by omega) (by omega)).trans k6.out;have b6:=(Z.keep (Y+2) (by omega) (by omega)).trans k9.out;have m7:=qa (o:=0) r6 rfl;have l5:=qn (o:=0) r6;have m6:=qa (o:=0) b6 rfl;have l4:=qn (o:=0) b6;have a6:=q1D Z;have d9:=q1D c8;clear Z c8
  gi_wp2
  have e7:=d8.out;obtain⟨C,hC⟩:∃C,C=(W.setCell ⟨Y+1,0,none⟩ (.slice none 0 0)).setCell ⟨Y+2,0,none⟩ (.bool false):=⟨_,rfl⟩
  have eC:(W.setCell ⟨Y+1,0,none⟩ (.slice none 0 0)).setCell ⟨Y+1+1,0,none⟩ (.bool false)=C:=hC.symm;rw[eC];have b8:∀k,k≠Y+1->k≠Y+2->C.heap[k]?=W.heap[k]?:=λk k1 k2=>by
   rw[hC];exact(qbi _ _ _ k (λe=>k2 e)).trans (qbi _ _ _ k (λe=>k1 e))
  have cr:C.heap[Y+1]?=some (.cells #[.slice none 0 0] 29 (0,0)):=by
   rw[hC,qbi _ _ _ (Y+1) (λe=>by have e':Y+1=Y+2:=e;omega),qh r6];rfl
  have cb:C.heap[Y+2]?=some (.cells #[.bool false] 4 (0,0)):=by
   rw[hC,qh ((qbi _ _ _ (Y+2) (λe=>by have e':Y+2=Y+1:=e;omega)).trans b6)];rfl
  have m3:C.heap[D]?=some (.deferred (some [])):=(b8 D (by omega) (by omega)).trans hK;have hg:=grownBy_putObj' C D (.deferred none);have er:=(hg.block (Y+1) (qy cr) (by simp;omega)).trans cr;have eb:=(hg.block (Y+2) (qy cb) (by simp;omega)).trans cb;have cs:C.heap.size=W.heap.size:=by rw[hC];simp[qci]
  have hfs:=a6.out.size;refine⟨by simp,.inl ⟨_,_,rfl,run_takeDeferred m3,?_⟩⟩;refine⟨.tuple #[.slice none 0 0,.bool false],by simp[results,Tryz.results102,go_sem,qal,er,eb],?_,.inr ⟨?_,rfl⟩⟩
  ·refine q0h k7.out ⟨by rw[hC];exact a6.out.os,by rw[hC];exact a6.out.tape,by rw[hC];exact a6.out.output,by omega,λk hk=>?_⟩ hg (by omega)
   rw[b8 k (by omega) (by omega)];exact a6.out.keep k (by omega) (by omega)
  ·rw[<- hxs]
   exact List.find?_eq_none.2 λy hy=>by rw[d9.out y hy];simp
 case stop =>
  rintro D c pr G W hD ⟨t,ht⟩ ⟨rfl,h⟩ hK m5;obtain⟨q,x,v,lo,hi,h1,h2,h3,ho,cr,cb,g7,-,h8,h9⟩:=h;have e7:=d8.out;have hg:=grownBy_putObj' W D (.deferred none);have er:=(hg.block (Y+1) (qy cr) (by simp;omega)).trans cr;have eb:=(hg.block (Y+2) (qy cb) (by simp;omega)).trans cb;have c9:qe w.heap.size (W.putObj D (.deferred none)).heap.size (W.putObj D (.deferred none)) v x:=by
   obtain⟨b',c',e,hl,hr⟩:=g7;refine⟨b',c',e,hl,λhne=>?_⟩;obtain⟨B,o,cs',fr,e1,e2,e3,e4,e5⟩:=hr hne;exact⟨B,o,cs',fr,e1,by omega,q8m e3 (q87 h8 hg.size),(hg.block B (by omega) (λe=>by cases e;rw[hK] at e4;cases e4)).trans e4,e5⟩
  obtain⟨vb,vc,rfl,-,-⟩:=c9.cell;have n7:=q1D c9;have HO:=q1D ho;have HH:=q1D (q8D h1 (q8D h2 h3));have HT:=q1D ht;clear g7 c9 ho h1 h2 h3 ht
  gi_wp2
  refine⟨by simp,.inl ⟨_,_,rfl,run_takeDeferred hK,?_⟩⟩;refine⟨.tuple #[.slice vb x.length vc,.bool true],by simp[results,Tryz.results102,go_sem,qal,er,eb],?_,.inl ⟨x,_,?_,rfl,n7.out⟩⟩
  ·exact q0h k7.out (by rw[<- e7];exact HO.out) hg (by omega)
  ·rw[HT.out,HH.out.1,qc1]
   rw[List.find?_append,List.find?_eq_none.2 (λy hy=>by rw[HH.out.2.1 y hy];simp)];simp[HH.out.2.2]
end Go.Proofs.YtidgnkmjgioapaaGreat
end
section
namespace Go.Proofs.YtidgnkmjgioapaaGreat
open Go.RowKit
theorem Yl{n:Nat}{x:Int}(h:x∈qQ n):0<=x/\x<n:=by
 simp only[qQ,List.mem_map,qcn] at h;obtain⟨i,hi,rfl⟩:=h;omega
theorem q18(n:Nat):(qQ n).Pairwise (·<·):=by
 unfold qQ;rw[List.pairwise_map];exact List.pairwise_lt_range.imp λh=>by omega
theorem q2s{l:List Int}(h:l.Pairwise (·<·)):l.Nodup:=h.imp λh=>by omega
theorem xM{l:List Int}(Z:l.length<=12)(h:l.Pairwise (·<·)):Zv l l:=q71 Z λi hi=>by
 rw[q7C (by omega),q7C hi];exact Int.le_of_lt (List.pairwise_iff_getElem.1 h i (i+1) (by omega) hi (by omega))
def yh(c:List Int):List (List Int):=zu c c.length []
def vm(ps:List Par)(lim:Int)(b:Bool × List Int)(c:List Int):Bool × List Int :=
 match (yh c).find? (jN ps lim) with
 | some p=>(true,if b.1=true/\jt p b.2=false then b.2 else p)
 | none=>b
def jr(ps:List Par)(lim:Int)(L:List (List Int)):Bool × List Int:=L.foldl (vm ps lim) (false,[])
theorem vV(ps:List Par)(lim:Int)(L:List (List Int))(c:List Int):jr ps lim (L++[c])=vm ps lim (jr ps lim L) c:=by simp[jr]
def q6u(ps:List Par)(lim:Int)(B:Nat)(w0:q3g)(done:List (List Int))(G:Nat->Prop)(W:q3g):Prop :=
 G=Kh/\w0.grownBy W (some B)/\∃bv,W.heap[B]?=some (.cells #[.func (.func 98) #[] #[],bv,.bool (jr ps lim done).1] 108 (0,0))/\qe 0 W.heap.size W bv (jr ps lim done).2
theorem qe.keptT{lo hi O:Nat}{w w':q3g}{v:q58}{l:List Int}(h:qe lo hi w v l)(hg:w.grownBy w' (some O)){cs':Array q58}{e':q8u}{f':Nat × Nat}(hO:w.heap[O]?=some (.cells cs' e' f'))(hne:e'≠3):qe lo hi w' v l:=by
 obtain⟨base,cap,rfl,hl,hr⟩:=h;refine⟨base,cap,rfl,hl,λhn=>?_⟩;obtain⟨B,o,cs,fr,e1,e2,e3,e4,e5⟩:=hr hn;refine⟨B,o,cs,fr,e1,e2,e3,blk hg (λe=>?_) e4,e5⟩;cases e;rw[e4] at hO;cases hO;exact hne rfl
theorem q7d(ps:List Par)(lim:Int)(Y B:Nat)(w0:q3g)(yb:Option qb9)(yc:Nat)(b8:w0.heap[Y]?=some (.cells #[.slice yb ps.length yc,.int .i64 lim] 91 (0,0)))(d8:qr 0 w0.heap.size w0 (.slice yb ps.length yc) ps){d9:Array q58}{f0:Nat × Nat}(c9:w0.heap[B]?=some (.cells d9 108 f0))(hok:YOk ps lim)(c:List Int)(b6:c.Pairwise (·<·))(hcm:∀x∈c,0<=x/\x<ps.length)(hcl:c.length<=5)(d7:Y≠B)
  (done:List (List Int)) (W:q3g) (hI:q6u ps lim B w0 done Kh W) (v:q58) (hv:qe 0 W.heap.size W v c) :
  qaD Tryp.prog 101 #[v,.pointer (some ⟨Y,0,none⟩),.pointer (some ⟨B,0,none⟩)] W λe W'=>e=.returned (.bool false)/\q6u ps lim B w0 (done++[c]) Kh W'/\W.grownBy W' (some B):=by
 obtain⟨-,a6,bv,hB,b7⟩:=hI;obtain⟨vb,vc,rfl,-,-⟩:=hv.cell;have a8:W.heap[Y]?=some (.cells #[.slice yb ps.length yc,.int .i64 lim] 91 (0,0)):=(a6.block Y (qy b8) (λe=>d7 (by cases e;rfl))).trans b8;have b9:qr 0 W.heap.size W (.slice yb ps.length yc) ps:=by
  obtain⟨b',c',e,hl,hr⟩:=d8;refine⟨b',c',e,hl,λhne=>?_⟩;obtain⟨B',o,cs,fr,e1,e2,e3,e4,e5⟩:=hr hne;cases e;exact⟨B',o,cs,fr,e1,e2,q8m e3 a6.size,(a6.block B' e3 (λe'=>by cases e';rw[e4] at c9;cases c9)).trans e4,e5⟩
 have c0:W.cell? ⟨Y,0,none⟩=some (.slice yb ps.length yc):=qa a8 rfl;have c1:W.cell? ⟨Y,1,none⟩=some (.int .i64 lim):=qa a8 rfl;have a7:=q7t (.agg #[.slice yb ps.length yc,.int .i64 lim]) (.slice vb c.length vc) ps lim c c W ⟨_,rfl,b9⟩ hv hok (xM (by omega) b6) (λx hx=>by have:=hcm x hx;have:=hok.len;omega) (q2s b6) hcl (λx hl hn hx=>⟨λy hy=>hcm y (hx y hy),hn,by omega⟩);have HF:=q1D a7;have HB:=q1D hB;have b0:=q1D b7;have d6:=q1D a6;clear a7 hB b7 a6 a8 b9 hv;cases hfd:(zu c c.length []).find? (jN ps lim) with
 | none =>
  rw[hfd] at HF;have a9:=q1D hfd;clear hfd;go_enter Tryp.func101,Tryz.ntmps101;go_wp2_with (first | (go_at_call 102;refine(HF.out).mono ?_;rintro e w2 ⟨hg2,⟨x,v',hx,-⟩ | ⟨-,rfl⟩⟩;cases hx));go_ret;have hst:vm ps lim (jr ps lim done) c=jr ps lim done:=by unfold vm;rw[show(yh c).find? _=none from a9.out]
  exact⟨rfl,⟨rfl,d6.out.andThen hg2 (by simp),bv,by rw[vV,hst];exact blk hg2 (by simp) HB.out,by rw[vV,hst];exact(b0.out.kept hg2 (by simp)).mono (q5m _) hg2.size⟩,(q8j _ _).andThen hg2 (by simp)⟩
 | some p =>
  rw[hfd] at HF;have a9:=q1D hfd;clear hfd;obtain⟨s,hs⟩:∃s,s=(jr ps lim done).1:=⟨_,rfl⟩
  rw[<- hs] at HB;have HS:=q1D hs;clear hs;go_enter Tryp.func101,Tryz.ntmps101;go_wp2_with (first
   | (go_at_call 102;refine(HF.out).mono ?_;rintro e w2 ⟨hg2,⟨x,v',hx,rfl,c3⟩ | ⟨hx,-⟩⟩<;>cases hx;have Z:=q1D hg2;have d5:=q1D c3;clear hg2 c3)
   | (go_at_call 103;refine(q8s B s bv v' (jr ps lim done).2 p w2 (blk Z.out (by simp) HB.out) ((b0.out.kept Z.out (by simp)).mono (q5m _) Z.out.size) (d5.out.mono (qa8 _) (q5m _))).mono ?_;rintro e w3 ⟨rfl,hT⟩;have HT:=q1D hT;clear hT))
  go_ret;have hst:vm ps lim (jr ps lim done) c=(true,if s=true/\jt p (jr ps lim done).2=false then(jr ps lim done).2 else p):=by unfold vm;rw[show(yh c).find? _=some p from a9.out,HS.out]
  have c8:=blk Z.out (by simp) HB.out;have hx:=b0.out.kept Z.out (by simp);have gW:W.grownBy w3 (some B):=(((q8j W (some B)).andThen Z.out (by simp))).andThen HT.out.1 (λj e=>.inr e);have h3:qe 0 w3.heap.size w3 (if s=true/\jt p (jr ps lim done).2=false then bv else v') (if s=true/\jt p (jr ps lim done).2=false then(jr ps lim done).2 else p):=by
   have t1:qe 0 w3.heap.size w3 bv (jr ps lim done).2:=(hx.keptT HT.out.1 c8 (by decide)).mono (q5m _) (q87 Z.out.size HT.out.1.size);have t2:qe 0 w3.heap.size w3 v' p:=(d5.out.keptT HT.out.1 c8 (by decide)).mono (qa8 _) HT.out.1.size;by_cases hc:s=true/\jt p (jr ps lim done).2=false
   ·rw[if_pos hc,if_pos hc];exact t1
   ·rw[if_neg hc,if_neg hc];exact t2
  exact⟨rfl,⟨rfl,d6.out.andThen gW (λj e=>.inr e),_,by rw[vV,hst];exact HT.out.2,by rw[vV,hst];exact h3⟩,gW⟩
theorem POk.nil(ps:List Par){lim:Int}(h:1<=lim):POk ps lim []:=⟨by simp,List.nodup_nil,by simp[zj];omega,by simp⟩
theorem q5B{n:Nat}{c:List Int}(h:c.Sublist (qQ n)):c.Pairwise (·<·)/\(∀x∈c,0<=x/\x<n)/\c.length<=n :=
 ⟨(q18 n).sublist h,λx hx=>Yl (h.subset hx),by have:=h.length_le;rwa [qP] at this⟩
theorem most_cb{ps:List Par}{lim:Int}{Y B:Nat}{w0:q3g}{yb:Option qb9}{yc:Nat}(a8:w0.heap[Y]?=some (.cells #[.slice yb ps.length yc,.int .i64 lim] 91 (0,0)))(a9:qr 0 w0.heap.size w0 (.slice yb ps.length yc) ps){b6:Array q58}{f0:Nat × Nat}(a6:w0.heap[B]?=some (.cells b6 108 f0))(hok:YOk ps lim)(a7:Y≠B) :
  Cb w0.heap.size (qQ ps.length) 101 #[.pointer (some ⟨Y,0,none⟩),.pointer (some ⟨B,0,none⟩)] (q6u ps lim B w0):=by
 refine⟨?_,?_,enters_of Tryp.func101 (by kernel_rfl) rfl,?_⟩
 ·rintro s G A C ⟨rfl,h1,bv,h2,h3⟩ hg
  exact⟨rfl,h1.andThen hg (by simp),bv,blk hg (by simp) h2,(h3.kept hg (by simp)).mono (q5m _) hg.size⟩
 ·rintro s G A ⟨rfl,-⟩ k hk
  exact hk.elim
 ·rintro done G W v c hI hv - Z -
  obtain⟨h1,h2,h3⟩:=q5B Z;obtain rfl:=hI.1;refine(q7d ps lim Y B w0 yb yc a8 a9 a6 hok c h1 h2 (by have:=hok.len;omega) a7 done W hI v hv).mono ?_;rintro e W' ⟨rfl,b0,hg⟩;have b7:=qy a6;exact⟨rfl,Kh,b0,hg.tape,hg.size,λk hk hc _=>hg.block k hk (λe=>by cases e;omega),λk hk=>hk.elim⟩
theorem q9x{ps:List Par}{lim:Int}{Y B:Nat}{w0:q3g}{yb:Option qb9}{yc:Nat}(a6:w0.heap[Y]?=some (.cells #[.slice yb ps.length yc,.int .i64 lim] 91 (0,0)))(a7:qr 0 w0.heap.size w0 (.slice yb ps.length yc) ps)(hok:YOk ps lim)(Z:Y≠B)(hB:w0.heap[B]?=some (.cells #[.func (.func 98) #[] #[],.slice none 0 0,.bool false] 108 (0,0)))
  {b:Option qb9} {k:Nat} (hI:qe 0 w0.heap.size w0 (.slice b ps.length k) (qQ ps.length)) :
  qaD Tryp.prog 82 #[.slice b ps.length k,.func (.func 101) #[] #[.pointer (some ⟨Y,0,none⟩),.pointer (some ⟨B,0,none⟩)]] w0 λe W'=>e=.returned (.bool false)/\q6u ps lim B w0 (zN (qQ ps.length) 0) Kh W':=by
 have hl:ps.length<=5:=hok.len;have h:=subA (b:=b) (c:=k) (ll:=qQ ps.length) (most_cb a6 a7 hB hok Z) (by rw[qP];omega) (xM (by rw[qP];omega) (q18 _)) (by rw[qP];exact hI) (G:=Kh) ⟨rfl,q8j _ _,_,hB,qe.nil _ _ _⟩;rw[qP] at h;refine h.mono ?_;rintro e W' ⟨he,G',h⟩;obtain rfl:=h.1;exact⟨he,h⟩
theorem q31(pv:q58)(ps:List Par)(lim:Int)(w:q3g)(hP:qr 0 w.heap.size w pv ps)(hok:YOk ps lim) :
  qaD Tryp.prog 44 #[.agg #[pv,.int .i64 lim]] w λe w'=>∃v,e=.returned (.tuple #[v,.int .i64 0])/\w.grownBy w' none/\qe 0 w'.heap.size w' v (jr ps lim (zN (qQ ps.length) 0)).2:=by
 obtain⟨yb,yc,rfl,h9,-⟩:=hP.cell;have HP:=q1D hP;have a9:=q1D hok;clear hP hok;go_enter Tryp.func44,Tryz.ntmps44;go_upto_region 4 with(first
  | (go_at_call 81;go_must (refine(vT 0 w.heap.size _ _ ps lim [] _ (HP.out.kept (q34 _ _ none) (by simp)) (qe.nil _ _ _) (by simp) a9.out (POk.nil ps a9.out.l1)).mono ?_);rintro e w2 ⟨rfl,d9⟩;have g9:=q1D ((q34 w (.cells #[.slice yb ps.length yc,.int .i64 lim] 24) none).trans d9);clear d9))
 obtain⟨Y,b0⟩:∃Y,Y=w2.heap.size:=⟨_,rfl⟩
 obtain⟨w3,a7⟩:∃w3,w3=w2.alloc (.cells #[.slice yb ps.length yc,.int .i64 lim] 91):=⟨_,rfl⟩
 rw[<- b0,<- a7];have d6:w3.heap[Y]?=some (.cells #[.slice yb ps.length yc,.int .i64 lim] 91 (0,0)):=by rw[a7,b0];exact q7j _ _
 have d8:w.grownBy w3 none:=g9.out.trans (by rw[a7];exact q34 _ _ none);have c8:=q1D d6;have e7:=q1D d8;clear b0 a7 d6 d8;have k0:∀(a:qb9) (fn:Fn) (x y:Array q58) (m:Mode) (w:q3g),(store a (.func fn x y) m).run Tryp.prog w=stored Tryp.prog w a (.func fn x y) m:=λa fn x y m w=>run_store _ w a _ m rfl;go_upto_region 5 with(fail)
 obtain⟨B,c3⟩:∃B,B=w3.heap.size:=⟨_,rfl⟩
 obtain⟨w4,a6⟩:∃w4,w4=w3.alloc (.cells #[.func (.func 98) #[] #[],.slice none 0 0,.bool false] 108):=⟨_,rfl⟩
 rw[<- c3,<- a6];have e6:w4.heap[B]?=some (.cells #[.func (.func 98) #[] #[],.slice none 0 0,.bool false] 108 (0,0)):=by rw[a6,c3];exact q7j _ _
 have b9:w3.grownBy w4 none:=by rw[a6];exact q34 _ _ none
 have a8:=blk b9 (by simp) c8.out;have e8:w.heap.size<=B:=by have:=e7.out.size;omega
 have h8:=q1D e6;have g5:=q1D a8;have c9:=q1D (e7.out.trans b9);have e9:=q1D (show Y≠B by have:=qy c8.out;omega);have c0:=qa a8 (o:=0) rfl;have c1:=qa a8 (o:=1) rfl;clear c3 a6 e6 b9 a8 c8;have hn:ps.length<=1000:=by have:=a9.out.len;omega
 go_upto_region 6 with(first
  | (go_at_call 100;refine(xS yb ps.length yc lim w4 hn).mono ?_;rintro e w5 ⟨v5,rfl,d7,b8⟩;obtain⟨b5,k5,e5,-,-⟩:=b8.cell;rw[qP] at e5;subst e5;have Z:=q1D d7;have g7:=q1D b8;clear d7 b8)
  | (go_at_call 82;refine(q9x (blk Z.out (by simp) g5.out) ((HP.out.kept (c9.out.trans Z.out) (by simp)).mono (q5m _) (c9.out.trans Z.out).size) a9.out e9.out (blk Z.out (by simp) h8.out) (g7.out.mono (qa8 _) (q5m _))).mono ?_;rintro e w6 ⟨rfl,-,d5,bv,e4,b7⟩;obtain⟨b6,k6,rfl,-,-⟩:=b7.cell;have c6:=qa e4 (o:=1) rfl;have g6:=q1D b7;have g8:=q1D d5;clear b7 d5 e4))
 go_wp2;go_ret2;exact⟨_,rfl,xx (c9.out.trans Z.out) g8.out e8,g6.out⟩
end Go.Proofs.YtidgnkmjgioapaaGreat
end
section
namespace Go.Proofs.YtidgnkmjgioapaaGreat
open Go.RowKit
def zh(lo hi B o:Nat)(w:q3g)(L:List (List Int)):Prop :=
 ∃cs,w.heap[B]?=some (.cells cs 29 (0,0))/\∀i,i<L.length->∃l x,L[i]?=some l/\cs[o+i]?=some x/\qe lo hi w x l
def Ke:Nat->List (List Int)->List (List Int)
 | 0,L=>L
 | j+1,L=>match L[j+1]?,L[j]? with
  | some a,some b=>if zv a b<0 then Ke j ((L.set (j+1) b).set j a) else L
  | _,_=>L
def zE(k:Nat)(L:List (List Int)):List (List Int):=(qa4 k).foldl (λL i=>Ke i L) L
theorem xe(k:Nat)(L:List (List Int)):zE (k+1) L=Ke k (zE k L):=by simp[zE,List.range_succ]
theorem q9e(j:Nat)(L:List (List Int)):(Ke j L).length=L.length:=by
 induction j generalizing L with
 | zero=>rfl
 | succ j ih =>
  unfold Ke;split
  ·split
   ·rw[ih];simp
   ·rfl
  ·rfl
theorem Je(k:Nat)(L:List (List Int)):(zE k L).length=L.length:=by
 induction k with
 | zero=>rfl
 | succ k ih=>rw[xe,q9e,ih]
section
variable{lo hi B o:Nat}{w w':q3g}{L:List (List Int)}
theorem zh.kept{r:Option Nat}(h:zh lo hi B o w L)(hg:w.grownBy w' r)(hr:∀R,r=some R->R≠B/\(R<lo\/hi<=R)):zh lo hi B o w' L:=by
 obtain⟨cs,h1,h2⟩:=h;refine⟨cs,blk hg (λe=>(hr B e.symm).1 rfl) h1,λi hi=>?_⟩;obtain⟨l,x,a,b,c⟩:=h2 i hi;exact⟨l,x,a,b,c.kept hg λR e=>(hr R e).2⟩
theorem zh.at{k:Nat}(h:zh lo hi B o w L)(hk:k<L.length):∃l xb xc,L[k]?=some l/\w.cell? ⟨B,o+k,none⟩=some (.slice xb l.length xc)/\qe lo hi w (.slice xb l.length xc) l:=by
 obtain⟨cs,h1,h2⟩:=h;obtain⟨l,x,a,b,c⟩:=h2 k hk;obtain⟨xb,xc,rfl,-,-⟩:=c.cell;exact⟨l,xb,xc,a,by simp[qal,h1,b],c⟩
theorem zh.thaw{k:Nat}(h:zh lo hi B o w L):w.frozen? ⟨B,o+k,none⟩=false:=by
 obtain⟨cs,h1,h2⟩:=h;exact qn h1
theorem qe.setT{v x:q58}{l:List Int}{k:Nat}{cs:Array q58}(h:qe lo hi w v l)(hB:w.heap[B]?=some (.cells cs 29 (0,0))):qe lo hi (w.setCell ⟨B,k,none⟩ x) v l:=by
 obtain⟨base,cap,rfl,hl,hr⟩:=h;refine⟨base,cap,rfl,hl,λhn=>?_⟩;obtain⟨C,o,cs',fr,e1,e2,e3,e4,e5⟩:=hr hn;refine⟨C,o,cs',fr,e1,e2,e3,(qbi _ _ _ C (λe=>?_)).trans e4,e5⟩;have e:C=B:=e;subst e;rw[e4] at hB;cases hB
theorem zh.step{j:Nat}{y v:q58}(h:zh lo hi B o w L)(hy:w.cell? ⟨B,o+j,none⟩=some y):(w.setCell ⟨B,o+(j+1),none⟩ v).cell? ⟨B,o+j,none⟩=some y/\(w.setCell ⟨B,o+(j+1),none⟩ v).frozen? ⟨B,o+j,none⟩=false:=by
 obtain⟨cs,h1,-⟩:=h;have g1:(w.setCell ⟨B,o+(j+1),none⟩ v).heap[B]?=some (.cells (cs.setIfInBounds (o+(j+1)) v) 29 (0,0)):=by rw[qh h1]
 have c2:cs[o+j]?=some y:=by simpa[qal,h1] using hy
 exact⟨qa g1 (by rw[qbj (by omega)];exact c2),qn g1⟩
theorem zh.swap{j:Nat}{a b:List Int}{x y:q58}(h:zh lo hi B o w L)(ha:L[j+1]?=some a)(hb:L[j]?=some b)(hx:w.cell? ⟨B,o+(j+1),none⟩=some x)(hy:w.cell? ⟨B,o+j,none⟩=some y)(xi:qe lo hi w x a)(yi:qe lo hi w y b) :
  zh lo hi B o ((w.setCell ⟨B,o+(j+1),none⟩ y).setCell ⟨B,o+j,none⟩ x) ((L.set (j+1) b).set j a):=by
 obtain⟨cs,h1,h2⟩:=h;have g1:(w.setCell ⟨B,o+(j+1),none⟩ y).heap[B]?=some (.cells (cs.setIfInBounds (o+(j+1)) y) 29 (0,0)):=by rw[qh h1]
 have g2:((w.setCell ⟨B,o+(j+1),none⟩ y).setCell ⟨B,o+j,none⟩ x).heap[B]?=some (.cells ((cs.setIfInBounds (o+(j+1)) y).setIfInBounds (o+j) x) 29 (0,0)):=by rw[qh g1]
 obtain⟨Z,-⟩:=q8w.1 ha;have c1:cs[o+(j+1)]?=some x:=by simpa[qal,h1] using hx
 have c2:cs[o+j]?=some y:=by simpa[qal,h1] using hy
 have s1:=(q45.1 c1).1;have s2:=(q45.1 c2).1;refine⟨_,g2,λi hi=>?_⟩;simp only[List.length_set] at hi;by_cases e:i=j
 ·subst e
  refine⟨a,x,List.getElem?_set_self (by rw[List.length_set];omega),qd8 (by rw[Array.size_setIfInBounds];omega),(xi.setT h1).setT g1⟩
 ·by_cases e':i=j+1
  ·subst e'
   refine⟨b,y,by rw[qds (by omega)];exact List.getElem?_set_self (by omega),by rw[qbj (by omega)];exact qd8 (by omega),(yi.setT h1).setT g1⟩
  ·obtain⟨l,z,k1,k2,k3⟩:=h2 i hi
   refine⟨l,z,by rw[qds (by omega),qds (by omega)];exact k1,by rw[qbj (by omega),qbj (by omega)];exact k2,(k3.setT h1).setT g1⟩
end
theorem Kk(lo hi B o:Nat)(c:Nat)(L:List (List Int))(w:q3g)(hI:zh lo hi B o w L)(hhi:hi<=w.heap.size)(h8:L.length<=1000) :
  qaD Tryp.prog 188 #[.slice (some ⟨B,o,none⟩) L.length c,.int .i64 (0:Nat),.int .i64 L.length,.func (.func 122) #[] #[]] w λe w'=>e=.returned (.tuple #[])/\w.grownBy w' (some B)/\zh lo hi B o w' (zE L.length L):=by
 have HI:=q1D hI;have g6:(L.length:Int)<=1000:=by omega
 clear hI;go_enter Tryp.func188,Tryz.ntmps188;go_wp2;go_loopw [8] (λiv wr=>∃k:Nat,iv=.int .i64 (k+1:Nat)/\k<=1000/\w.grownBy wr (some B)/\zh lo hi B o wr (zE (min (k+1) L.length) L)) (λiv _=>(L.length - qb2 iv).toNat)
 case atStart=>exact⟨0,rfl,by omega,q8j _ _,by
  by_cases h:L.length=0
  ·rw[h];exact HI.out
  ·rw[show min (0+1) L.length=0+1 by omega,xe];exact HI.out⟩
 case round =>
  obtain⟨k,rfl,hk,hG,hR⟩:=hrel;have HG:=q1D hG;have HR:=q1D hR;clear hG hR;by_cases hlt:k+1<L.length
  ·have e5:(k:Int)+1<(L.length:Int):=by omega
   have e4:IntKind.i64.wrap ((k:Int)+1+1)=(k:Int)+1+1:=qa7 _ (by omega);have e7:IntKind.i64.wrap ((k:Int)+1)=(k:Int)+1:=qa7 _ (by omega);go_wp2;go_loopw [9] (λjv w2=>∃(j:Nat) (Lj:List (List Int)),jv=.int .i64 j/\j<=k+1/\Ke (k+1) (zE (min (k+1) L.length) L)=Ke j Lj/\Lj.length=L.length/\w.grownBy w2 (some B)/\zh lo hi B o w2 Lj) (λjv _=>(qb2 jv).toNat)
   case atStart=>exact⟨k+1,_,rfl,q5m _,rfl,Je _ _,HG.out,HR.out⟩
   case round =>
    obtain⟨j0,Lj,rfl,hj,hs,c8,d5,c9⟩:=hrel;have b8:=q1D hs;have b9:=q1D c8;have c3:=q1D d5;have a7:=q1D c9;clear hs c8 d5 c9;have hout:Ke (k+1) (zE (min (k+1) L.length) L)=Lj->∀w5,w.grownBy w5 (some B)->zh lo hi B o w5 Lj->∃k',q9q .i64 ((k:Int)+1+1)=.int .i64 ((k'+1:Nat):Int)/\k'<=1000/\w.grownBy w5 (some B)/\zh lo hi B o w5 (zE (min (k'+1) L.length) L):=λe w5 h1 h2 =>
     ⟨k+1,by simp,by omega,h1,by rw[show min (k+1+1) L.length=(k+1)+1 by omega,xe,<- show min (k+1) L.length=k+1 by omega,show min (k+1) L.length=k+1 by omega];rw[show min (k+1) L.length=k+1 by omega] at e;rw[e];exact h2⟩
    have a8:=q1D hout;clear hout;cases j0 with
    | zero =>
     go_wp2_with (fail);go_quiet (fail);go_wp2;go_roundw
     case rel=>exact a8.out b8.out _ (c3.out.andThen (qi _ _ none) (by simp)) (a7.out.kept (qi _ _ none) (by simp))
     case measure=>simp[qb2];omega
    | succ j =>
     obtain⟨a,xb,xc,ha,x1,xi⟩:=a7.out.at (k:=j+1) (by have:=b9.out;omega);obtain⟨b,yb,yc,hb,y1,yi⟩:=a7.out.at (k:=j) (by have:=b9.out;omega);have z1:=a7.out.thaw (k:=j+1);have z0:=a7.out.thaw (k:=j);have a6:Ke (j+1) Lj=if zv a b<0 then Ke j ((Lj.set (j+1) b).set j a) else Lj:=by
      show(match Lj[j+1]?,Lj[j]? with | some a,some b=>_ | _,_=>_)=_;rw[ha,hb]
     have b0:=λC (h:World.grownBy _ C none)=>Jj lo hi lo hi _ _ a b C (xi.kept h (by simp)) (yi.kept h (by simp));generalize zv a b=z at a6 b0;have d7:=q1D b0;have e8:IntKind.i64.wrap (j:Int)=(j:Int):=qa7 _ (by omega);have g5:((j:Int)+1).toNat=j+1:=by omega
     have g8:(j:Int)+1<(L.length:Int):=by omega
     have e6:(j:Int)<(L.length:Int):=by omega
     have g9:(0:Int)<=(j:Int)+1:=by omega
     have g7:(0:Int)<(j:Int)+1:=by omega
     have e9:(j:Int)+1 - 1=(j:Int):=by omega
     have XI:=q1D (q8D xi yi);have E:=q1D (q8D ha hb);clear b0 xi yi ha hb;by_cases hz:z<0
     ·rw[if_pos hz] at a6
      have b7:=q1D a6;clear a6;go_wp2_with (fail);go_quiet (first | (go_at_call 122;refine qc4 ((d7.out _ (qi _ _ none)).mono (λe w5 h=>⟨h.1,h.2.symm⟩))));go_upto_region 6 with(fail)
      have a9:=qi wr nq none;generalize wr.drewN nq=wa at a9 ⊢;have hgb:wr.grownBy wa.drew none:=a9.trans (qc wa none);have RA:=a7.out.kept hgb (by simp);have x2:=hgb.cell x1 (by simp);have y2:=hgb.cell y1 (by simp);have d8:=q1D (RA.swap E.out.1 E.out.2 x2 y2 (XI.out.1.kept hgb (by simp)) (XI.out.2.kept hgb (by simp)));have d9:=q1D (((c3.out.andThen hgb (by simp)).andThen (qg _ B (o+(j+1)) (.slice yb b.length yc)) (λj e=>.inr e)).andThen (qg _ B (o+j) (.slice xb a.length xc)) (λj e=>.inr e));have z2:=RA.thaw (k:=j+1);have z3:=RA.thaw (k:=j);have b6:=RA.step (v:=.slice yb b.length yc) y2;have d6:=q1D b6;have z4:=b6.2;clear RA b6 x1 y1 z1 z0 a9 hgb;refine qR 16 (λw'=>w'.cell? ⟨B,o+j,none⟩=some (.slice yb b.length yc)/\w'.frozen? ⟨B,o+j,none⟩=false) (by kernel_rfl) (by kernel_rfl) ⟨y2,z3⟩ (λZ=>?_);simp only[q8l,q9k,q9F,qbA,q9m,qao,qat,qbd,qae,q9y];refine tk 0 ?_;try go_frame
      refine tk 1 ?_;try go_frame
      refine tk 2 ?_;try go_frame
      refine tk 3 ?_;try go_frame
      refine tk 4 ?_;try go_frame
      refine tk 5 ?_;try go_frame
      refine tk 6 ?_;try go_frame
      refine tk 7 ?_;try go_frame
      refine tk 8 ?_;try go_frame
      refine tk 9 ?_;try go_frame
      refine tk 10 ?_;try go_frame
      refine tk 11 ?_;try go_frame
      refine tk 12 ?_;try go_frame
      refine rdy [13] ?_;refine cns 13 (λK hK=>?_) ?_
      ·skip
       go_simp;refine hK.out _ _ (by first | exact Z | exact⟨y2,z3⟩ | exact d6.out) (λZ=>?_);clear hK K;try go_frame
       refine tk 14 ?_;try go_frame
       refine rdy [15] ?_;refine cns 15 (λK hK=>?_) ?_
       ·skip
        go_simp;refine hK.out _ _ (by first | exact Z | exact⟨y2,z3⟩ | exact d6.out) (λZ=>?_);clear hK K;try go_frame
        refine⟨by kernel_rfl,?_⟩;simp only[qbh,qbH];go_wp2;refine⟨?_,?measure⟩
        repeat apply Exists.intro
        refine⟨?rel,rfl⟩
        case rel=>exact⟨j,_,rfl,by omega,b8.out.trans b7.out,by simp[b9.out],d9.out,d8.out⟩
        case measure=>simp[qb2]
       exact qm.nil
      exact qm.nil
     ·rw[if_neg hz] at a6
      have b7:=q1D a6;clear a6;go_wp2_with (fail);go_quiet (first | (go_at_call 122;refine qc4 ((d7.out _ (qi _ _ none)).mono (λe w5 h=>⟨h.1,h.2.symm⟩))));go_wp2;refine⟨?_,?measure⟩
      repeat apply Exists.intro
      refine⟨?rel,rfl⟩
      case rel=>exact a8.out (b8.out.trans b7.out) _ (c3.out.andThen (qi _ _ none) (by simp)) (a7.out.kept (qi _ _ none) (by simp))
      case measure=>simp[qb2];omega
  ·have he:min (k+1) L.length=L.length:=by omega
   rw[he] at HR;go_wp2;go_end0;exact⟨rfl,HG.out,HR.out⟩
end Go.Proofs.YtidgnkmjgioapaaGreat
end
section
namespace Go.Proofs.YtidgnkmjgioapaaGreat
open Go.RowKit
theorem pdqRows(lo hi B o c:Nat)(L:List (List Int))(lim:Int)(w:q3g)(hI:zh lo hi B o w L)(hhi:hi<=w.heap.size)(Z:L.length<=12) :
  qaD Tryp.prog 155 #[.slice (some ⟨B,o,none⟩) L.length c,.int .i64 (0:Nat),.int .i64 L.length,.int .i64 lim,.func (.func 122) #[] #[]] w λe w'=>e=.returned (.tuple #[])/\w.grownBy w' (some B)/\zh lo hi B o w' (zE L.length L):=by
 have HI:=q1D hI;clear hI;go_enter Tryp.func155,Tryz.ntmps155;go_wp2;go_loopw [1,2,3] (λa b c wr=>a=.int .i64 (0:Nat)/\b=.int .i64 L.length/\c=.int .i64 lim/\w=wr) (λ_ _ _ _=>0)
 case atStart=>exact⟨rfl,rfl,rfl,rfl⟩
 case round =>
  obtain⟨rfl,rfl,rfl,rfl⟩:=hrel;have h1:IntKind.i64.wrap (L.length:Int)=(L.length:Int):=qa7 _ (by omega);have h2:(L.length:Int)<=12:=by omega
  go_wp2_with (first | (go_at_call 188;refine(Kk lo hi B o c L _ HI.out hhi (by omega)).mono ?_;rintro e w2 ⟨rfl,hg,hr⟩));refine qcG (results_none rfl _ _ _) rfl ?_;exact⟨rfl,hg,hr⟩
theorem q9a(lo hi B o c:Nat)(L:List (List Int))(w:q3g)(hI:zh lo hi B o w L)(hhi:hi<=w.heap.size)(Z:L.length<=12) :
  qaD Tryp.prog 121 #[.slice (some ⟨B,o,none⟩) L.length c,.func (.func 122) #[] #[]] w λe w'=>e=.returned (.tuple #[])/\w.grownBy w' (some B)/\zh lo hi B o w' (zE L.length L):=by
 have HI:=q1D hI;have hw:IntKind.u64.wrap (L.length:Int)=(L.length:Int):=by simp[IntKind.wrap,IntKind.signed,IntKind.bits];omega
 clear hI;go_enter Tryp.func121,Tryz.ntmps121;go_wp2_with (first
  | (go_at_call 156;refine(Jm L.length Z _).mono ?_;rintro e w2 ⟨v,rfl,rfl⟩)
  | (go_at_call 155;refine(pdqRows lo hi B o c L _ _ HI.out hhi Z).mono ?_;rintro e w2 ⟨rfl,hg,hr⟩))
 go_end0;exact⟨rfl,hg,hr⟩
theorem KQ(lo hi:Nat)(v:q58)(l:List Int)(w:q3g)(hI:qe lo hi w v l)(h5:∀x∈l,0<=x/\x<5) :
  qaD Tryp.prog 123 #[v] w λe w'=>e=.returned (.int .u8 (zq l:Nat))/\w=w':=by
 obtain⟨b,c,rfl,a9,hc⟩:=hI.cell;have HC:=q1D hc;have H5:=q1D h5;clear hc h5 hI;go_enter Tryp.func123,Tryz.ntmps123;go_wp2;go_loopw [3,9] (λsv iv wr=>∃k:Nat,iv=.int .i64 k/\sv=.int .u8 (zq (l.take k):Nat)/\k<=l.length/\w=wr) (λ_ iv _=>(l.length - qb2 iv).toNat)
 case atStart=>exact⟨0,rfl,rfl,by omega,rfl⟩
 case round =>
  obtain⟨k,rfl,rfl,hk,rfl⟩:=hrel;by_cases hlt:k<l.length
  ·obtain⟨B,o,rfl,b7,b6,b0,Z⟩:=HC.out (by intro e;rw[e] at hlt;simp at hlt)
   obtain⟨x,hx⟩:∃x,l[k]?=some x:=⟨_,q7C hlt⟩
   have x1:=Z k hlt;rw[hx] at x1;simp only[q88] at x1;obtain⟨a8,a7⟩:=H5.out x (q8z hx);obtain⟨n,rfl⟩:∃n:Nat,x=(n:Int):=⟨x.toNat,by omega⟩
   have hm:zq (l.take k)<32:=Qh _ 5 λy hy=>by have:=H5.out y (List.mem_of_mem_take hy);omega
   have hs:=q01 l k n hx;have a6:(k:Int)<(l.length:Int):=by omega
   generalize zq (l.take k)=m at hm hs ⊢;have HS:=q1D hs;clear hs Z hx;go_wp2_with (first | (go_at_call 151;refine(JK m n _ hm (by omega)).mono ?_;rintro e w2 ⟨rfl,rfl⟩));go_roundw
   case rel=>exact⟨k+1,by simp,by rw[HS.out,Int.toNat_natCast],by omega,by first | rfl | trivial⟩
   case measure=>simp[qb2];omega
  ·obtain rfl:k=l.length:=by omega
   go_wp2;go_ret;exact⟨by rw[qcc];rfl,by first | rfl | trivial⟩
end Go.Proofs.YtidgnkmjgioapaaGreat
end
section
namespace Go.Proofs.YtidgnkmjgioapaaGreat
open Go.RowKit Go.Shelf
attribute [local go_sem] Oper.semAt_some
def q2n(ps:List Par)(c:List Int):List (List Int):=(yh c).filter λo=>!o.isEmpty && qw ps (pre Par.mx ps ps.length) o
def vA(ps:List Par)(L:List (List Int)):List (List Int):=L.flatMap (q2n ps)
theorem q4y(ps:List Par)(L:List (List Int))(c:List Int):vA ps (L++[c])=vA ps L++q2n ps c:=by simp[vA]
def KeptR(n0:Nat)(L:List (List Int))(vals:List q58)(G:Nat->Prop)(W:q3g):Prop :=
 ∀i,i<L.length->∃l x,L[i]?=some l/\vals[i]?=some x/\qe n0 W.heap.size W x l/\∀B o n c,x=.slice (some ⟨B,o,none⟩) n c->l≠[]->G B
structure Zy(Sg:Nat)(w0:q3g)(L:List (List Int))(G:Nat->Prop)(W:q3g):Prop where
 os:W.os=w0.os
 tape:W.tape=w0.tape
 output:W.output=w0.output
 size:w0.heap.size<=W.heap.size
 keep:∀k,k<w0.heap.size->k≠Sg->W.heap[k]?=w0.heap[k]?
 lt:∀k,G k->w0.heap.size<=k/\k<W.heap.size
 sl:Sg<w0.heap.size
 sg:∃sv vals,W.heap[Sg]?=some (.cells #[sv] 36 (0,0))/\W.ownsRow w0.heap.size 29 1 sv L.length vals/\(∀g,sv.ownBlock=some g->G g)/\KeptR w0.heap.size L vals G W
theorem q0c{lo:Nat}{A C:q3g}{x:q58}{l:List Int}(h:qe lo A.heap.size A x l)(hs:A.heap.size<=C.heap.size)(hk:∀B o n c,x=.slice (some ⟨B,o,none⟩) n c->l≠[]->C.heap[B]?=A.heap[B]?):qe lo C.heap.size C x l:=by
 obtain⟨base,cap,rfl,hl,hr⟩:=h;refine⟨base,cap,rfl,hl,λhne=>?_⟩;obtain⟨B,o,cs,fr,e1,e2,e3,e4,e5⟩:=hr hne;exact⟨B,o,cs,fr,e1,e2,by omega,(hk B o _ _ (by rw[e1]) hne).trans e4,e5⟩
theorem jK{lo e sz:Nat}{A C:q3g}{v:q58}{n:Nat}{xs:List q58}(h:A.ownsRow lo e sz v n xs)(hk:∀g,v.ownBlock=some g->C.heap[g]?=A.heap[g]?):C.ownsRow lo e sz v n xs:=by
 obtain⟨h1,h2⟩:=h;refine⟨h1,?_⟩;rcases h2 with h2 | ⟨g,cap,cur,rfl,hb,hg,hr⟩
 ·exact .inl h2
 ·exact .inr ⟨g,cap,cur,rfl,hb,(hk g (by simp[qak])).trans hg,hr⟩
theorem ZG{n1 B:Nat}{G:Nat->Prop}{A C:q3g}(hg:A.grownBy C none):Stp n1 B G A C:=⟨hg.os,hg.tape,hg.output,hg.size,λk hk _=>hg.block k hk (by simp)⟩
theorem Zy.stp{Sg:Nat}{w0:q3g}{L:List (List Int)}{G:Nat->Prop}{A C:q3g}{n1 B:Nat}(h:Zy Sg w0 L G A)(hs:Stp n1 B G A C)(hn:w0.heap.size<=n1)(hB:w0.heap.size<=B):Zy Sg w0 L G C:=by
 have Z:=h.sl;have hsz:=h.size;have a6:=hs.size;have hk:∀k,k<w0.heap.size->C.heap[k]?=A.heap[k]?:=λk hk=>hs.keep k (by omega) (.inl ⟨by omega,by omega⟩);obtain⟨sv,vals,h1,h2,h3,h4⟩:=h.sg;refine⟨hs.os.trans h.os,hs.tape.trans h.tape,hs.output.trans h.output,by omega,λk hk' hne=>(hk k hk').trans (h.keep k hk' hne),λk hg=>⟨(h.lt k hg).1,by have:=(h.lt k hg).2;omega⟩,Z,sv,vals,(hk Sg Z).trans h1,jK h2 λg e=>hs.keep g (h.lt g (h3 g e)).2 (.inr (h3 g e)),h3,λi hi=>?_⟩;obtain⟨l,x,e1,e2,e3,e4⟩:=h4 i hi;exact⟨l,x,e1,e2,q0c e3 a6 λB o n c e hne=>hs.keep B (h.lt B (e4 B o n c e hne)).2 (.inr (e4 B o n c e hne)),e4⟩
theorem Zy.push{Sg:Nat}{w0:q3g}{L:List (List Int)}{G:Nat->Prop}{W E C:q3g}{sv v':q58}{vals:List q58}{x:q58}{l:List Int}(h:Zy Sg w0 L G W)(h1:W.heap[Sg]?=some (.cells #[sv] 36 (0,0)))(h2:W.ownsRow w0.heap.size 29 1 sv L.length vals)(h3:∀g,sv.ownBlock=some g->G g)(h4:KeptR w0.heap.size L vals G W)
  (hE:W.grownBy E sv.ownBlock) (hown:E.ownsRow w0.heap.size 29 1 v' (L.length+1) (vals++[x])) (hv:∀g,v'.ownBlock=some g->sv.ownBlock=some g\/W.heap.size<=g) (a7:∀g,v'.ownBlock=some g->g<E.heap.size) (hx:qe W.heap.size E.heap.size E x l) (hC:C=E.setCell ⟨Sg,0,none⟩ v') :
  Zy Sg w0 (L++[l]) (λk=>G k\/(W.heap.size<=k/\k<C.heap.size)) C/\∀n B,Sg<n->Sg≠B->Bod n B G (λk=>G k\/(W.heap.size<=k/\k<C.heap.size)) W C:=by
 have h5:vals.length=L.length:=by have:=h2.1;omega
 have a6:∀y m g,sv.ownBlock=some g->qe w0.heap.size W.heap.size W y m->∀B o n c,y=.slice (some ⟨B,o,none⟩) n c->m≠[]->B≠g:=by
  rintro y m g hg ⟨base,cap,rfl,hl,hr⟩ B o n c e hne rfl;obtain⟨B',o',cs,fr,e1,e2,e3,e4,e5⟩:=hr hne;cases e;cases e1;rcases h2.2 with⟨rfl,_⟩ | ⟨g',cap',cur,rfl,hb,hgb,_⟩
  ·simp[qak] at hg
  ·obtain rfl:g'=B:=by simpa[qak] using hg
   rw[hgb] at e4;cases e4
 have a9:=h.sl;have hsz:=h.size;have hes:=hE.size;have Z:=qg E Sg 0 v';rw[<- hC] at Z;have hcs:C.heap.size=E.heap.size:=by rw[hC];simp[qci]
 have b7:E.heap[Sg]?=some (.cells #[sv] 36 (0,0)):=(hE.block Sg (by omega) (λe=>by have:=(h.lt _ (h3 _ e.symm)).1;omega)).trans h1;have b6:C.heap[Sg]?=some (.cells #[v'] 36 (0,0)):=by rw[hC,qh b7];rfl
 have hk:∀k,k<W.heap.size->k≠Sg->sv.ownBlock≠some k->C.heap[k]?=W.heap[k]?:=λk hk hne a6=>(Z.block k (by omega) (by intro e;cases e;exact hne rfl)).trans (hE.block k hk (λe=>a6 e.symm));refine⟨⟨Z.os.trans (hE.os.trans h.os),Z.tape.trans (hE.tape.trans h.tape),Z.output.trans (hE.output.trans h.output),by omega,λk hk' hne=>?_,λk hg=>?_,a9,v',vals++[x],b6,?_,λg e=>?_,λi hi=>?_⟩,λn B hn hB=>⟨Z.tape.trans hE.tape,by omega,λk hk' hc hg=>?_,λk hg=>hg.imp id λe=>e.1⟩⟩
 ·rw[hk k (by omega) hne (λe=>by have:=(h.lt _ (h3 _ e)).1;omega)]
  exact h.keep k hk' hne
 ·rcases hg with hg | hg
  ·exact⟨(h.lt k hg).1,by have:=(h.lt k hg).2;omega⟩
  ·omega
 ·rw[qb3,List.length_singleton]
  exact jK hown λg e=>Z.block g (a7 g e) (by
   intro e';cases e';rcases hv _ e with h' | h'
   ·have:=(h.lt _ (h3 _ h')).1
    omega
   ·omega)
 ·rcases hv g e with h' | h'
  ·exact .inl (h3 g h')
  ·exact .inr ⟨h',by have:=a7 g e;omega⟩
 ·by_cases a8:i<L.length
  ·obtain⟨m,y,e1,e2,e3,e4⟩:=h4 i a8
   refine⟨m,y,by rw[qaj a8];exact e1,by rw[qaj (by omega)];exact e2,q0c e3 (by omega) λB o n c e hne=>hk B (h.lt B (e4 B o n c e hne)).2 (λe'=>by have:=(h.lt B (e4 B o n c e hne)).1;omega) (λe'=>a6 y m _ e' e3 B o n c e hne rfl),λB o n c e hne=>.inl (e4 B o n c e hne)⟩
  ·have b0:i=L.length:=by simp at hi;omega
   subst b0;refine⟨l,x,by simp,by rw[<- h5];simp,?_,λB o n c e hne=>.inr ?_⟩
   ·obtain⟨base,cap,rfl,hl,hr⟩:=hx
    refine⟨base,cap,rfl,hl,λhne=>?_⟩;obtain⟨B,o,cs,fr,e1,e2,e3,e4,e5⟩:=hr hne;exact⟨B,o,cs,fr,e1,by omega,by omega,(Z.block B (by omega) (by intro e;cases e;omega)).trans e4,e5⟩
   ·obtain⟨base,cap,rfl,hl,hr⟩:=hx
    obtain⟨B',o',cs,fr,e1,e2,e3,e4,e5⟩:=hr hne;cases e;cases e1;omega
 ·refine hk k hk' (λe=>by rcases hc with h' | h'<;>omega) (λe=>hg (h3 k e))
end Go.Proofs.YtidgnkmjgioapaaGreat
end
section
namespace Go.Proofs.YtidgnkmjgioapaaGreat
open Go.RowKit Go.Shelf
attribute [local go_sem] Oper.semAt_some
theorem Tryp.info29p:(Tryp.prog.info? 29).map (λi=>(i.zero,i.size,i.bytes))=some (some (.slice none 0 0),1,24):=by kernel_rfl
theorem Tryp.und36:Tryp.prog.underlying 36=some (.slice 29):=by rw[Tryp.und];exact Tryz.underlying36
theorem qa9(ps:List Par)(lim:Int)(Y Sg:Nat)(w0:q3g)(yb:Option qb9)(yc:Nat)(c9:w0.heap[Y]?=some (.cells #[.slice yb ps.length yc,.int .i64 lim] 91 (0,0)))(n6:qr 0 w0.heap.size w0 (.slice yb ps.length yc) ps){n9:Array q58}{f0:Nat × Nat}(g5:w0.heap[Sg]?=some (.cells n9 36 f0))(hok:YOk ps lim)
  (c:List Int) (h9:c.Pairwise (·<·)) (hcm:∀x∈c,0<=x/\x<ps.length) (hcl:c.length<=5)
  (m7:∀x:List Int,x.length=c.length->x.Nodup->(∀y∈x,y∈c)->POk ps lim x)
  (L0:List (List Int)) (hL:L0.length+(yh c).length<=1000) (G0:Nat->Prop) (W0:q3g) (hI:Zy Sg w0 L0 G0 W0) (v:q58) (hv:qe 0 W0.heap.size W0 v c) :
  qaD Tryp.prog 120 #[v,.pointer (some ⟨Y,0,none⟩),.pointer (some ⟨Sg,0,none⟩)] W0 λe W'=>e=.returned (.bool false)/\∃G',Zy Sg w0 (L0++q2n ps c) G' W'/\Bod w0.heap.size w0.heap.size G0 G' W0 W':=by
 obtain⟨i0,n3,m4,m3,l9⟩:=qch Tryp.info29p;obtain⟨base,cap,rfl,s3,-⟩:=hv.cell;have n4:Y≠Sg:=λe=>by rw[e,g5] at c9;cases c9
 obtain⟨gx,e7⟩:∃gx,gx=pre Par.mx ps ps.length:=⟨_,rfl⟩
 obtain⟨Bl,c3⟩:∃Bl,Bl=W0.heap.size:=⟨_,rfl⟩
 have m6:q2n ps c=(yh c).filter λo=>!o.isEmpty && qw ps gx o:=by rw[e7];rfl
 rw[m6];have r9:=hI.size;refine(qcx (n:=6)).1 ?_;refine callsIn_of_wp_marks Tryp.func120 rfl trivial ?_ rfl;simp only[Tryz.ntmps120,qa0,q8l,q9k,q9F,qbA,qao,qat,qbd,qdi,qae,q9y]
 gi_wp2_with (first | (refine⟨trivial,?_⟩;gi_at_call 117;refine(qcx.2 (Yg _ _ _ _)).mono ?_;rintro e w2 ⟨rfl,rfl⟩))
 obtain⟨w3,b0⟩:∃w3,w3=W0.alloc (.cells #[.slice base c.length cap] 29):=⟨_,rfl⟩
 rw[<- b0,<- c3];have b9:W0.grownBy w3 none:=by rw[b0];exact q34 _ _ none
 have s1:w3.heap.size=Bl+1:=by rw[b0,q8f,c3]
 have l3:w3.heap[Bl]?=some (.cells #[.slice base c.length cap] 29 (0,0)):=by rw[b0,c3];exact q7j _ _
 have n7:=(hv.kept b9 (by simp)).mono (q5m _) b9.size;have r8:=hI.sl;have n8:Zy Sg w0 L0 G0 w3:=hI.stp (ZG (n1:=w0.heap.size) (B:=w0.heap.size) b9) (q5m _) (q5m _);have n2:¬ G0 Bl:=λh=>by have:=(hI.lt _ h).2;omega
 have r7:w0.heap.size<=Bl:=by omega
 have r6:W0.heap.size<=Bl:=by omega
 have q6:=q1D e7;have d6:=q1D c3;have HI:=q1D hI;have r3:=q1D b9;have HL:=q1D hL;clear e7 c3 b0 hv b9 hL;refine vd rfl (by omega) (gf:=149) (lb:=#[.pointer (some ⟨Bl,0,none⟩)]) rfl trivial (enters_of Tryp.func149 (by kernel_rfl) rfl)
  (Zi 5 Bl base cap c c (xM (by omega) h9) (λx hx=>by have:=hcm x hx;have:=hok.len;omega) (q2s h9) hcl w3 l3 n7) (Below.refl _ _) (λ_=>rfl) (G0:=G0) n2 (by omega) (q5u)
  (λpr G W=>Zy Sg w0 (L0++(pr.map qdE).filter λo=>!o.isEmpty && qw ps gx o) G W/\Bod w0.heap.size w0.heap.size G0 G W0 W)
  (λ_ _ _ _=>False)
  (λs G A h k hk=>(h.1.lt k hk).2)
  (λs G A C h hst=>⟨h.1.stp hst (by omega) (by omega),hst.tape.trans h.2.tape,q87 h.2.size hst.size,λk hk hc hg=>(hst.keep k (q8m hk h.2.size) (.inl ⟨by have:=d6.out;omega,by have:=d6.out;omega⟩)).trans (h.2.keep k hk hc hg),h.2.fp⟩)
  (λ_ _ _ _ _ h _=>h)
  ⟨by simpa using n8,jP r3.out⟩
  (λx=>{ tmps:=#[.slice base c.length cap,.pointer (some ⟨Y,0,none⟩),.pointer (some ⟨Sg,0,none⟩),q5s,.bool false,x.2,.slice base c.length cap,.func (.func 149) #[] #[.pointer (some ⟨Bl,0,none⟩)],x.2,q5s,q5s,q5s,q5s,q5s,q5s,q5s,q5s,q5s,q5s,q5s,q5s,q5s],defers:=[] }) ?assign ?body ?done ?stop
 case assign =>
  intro l x W K hK
  gi_wp2
  exact hK
 case body =>
  rintro l pr G x W ⟨hf,hb⟩ hx ⟨t,ht⟩;have b8:(L0++(pr.map qdE).filter λo=>!o.isEmpty && qw ps gx o).length<=1000:=by
   have h1:=qcd (λo=>!o.isEmpty && qw ps gx o) (pr.map qdE);have h2:=congrArg List.length ht;have h3:=HL.out;unfold yh at h3;simp only[qb3,qcl,List.length_singleton] at h1 h2 ⊢;omega
  have hsz:=hf.size;have d9:=(hf.keep Y (qy c9) n4).trans c9;have k8:qr 0 W.heap.size W (.slice yb ps.length yc) ps:=by
   obtain⟨b',c',e,hl,hr⟩:=n6;refine⟨b',c',e,hl,λhne=>?_⟩;obtain⟨B,o,cs,fr,e1,e2,e3,e4,e5⟩:=hr hne;exact⟨B,o,cs,fr,e1,e2,by omega,(hf.keep B e3 (λe=>by cases e;rw[e4] at g5;cases g5)).trans e4,e5⟩
  obtain⟨c8,a8⟩:=hx;have b6:=m7 x.1 a8.1 a8.2.1 a8.2.2.1;have hxl:x.1.length<=5:=by have:=a8.1;omega
  obtain⟨x1,x2⟩:=x;obtain⟨xb,xc,g9,-,-⟩:=c8.cell;dsimp only at g9 b6 hxl a8;subst g9;have c1:W.cell? ⟨Y,0,none⟩=some (.slice yb ps.length yc):=qa d9 rfl;have c2:W.cell? ⟨Y,1,none⟩=some (.int .i64 lim):=qa d9 rfl;obtain⟨z,hz⟩:∃z,z=qw ps gx x1:=⟨_,rfl⟩
  have k6:qaD Tryp.prog 114 #[.agg #[.slice yb ps.length yc,.int .i64 lim],.slice xb x1.length xc] W λe w'=>e=.returned (.bool z)/\W.grownBy w' none:=by
   rw[hz,q6.out];exact q1e 0 W.heap.size _ _ ps lim x1 W ⟨_,rfl,k8⟩ c8 (q5m _) hok b6
  have l8:=q1D k6;have HZ:=q1D hz;have p4:=q1D (show qe 0 W.heap.size W (.slice xb x1.length xc) x1 from c8);have s4:=q1D a8;have HF:=q1D hf;have HB:=q1D hb;have l7:=q1D b8;clear k6 hz c8 a8 hf hb d9 k8 b6 ht b8;by_cases hne:x1=[]
  ·subst hne
   gi_wp2
   refine⟨trivial,?_⟩
   gi_wp2
   refine⟨G,jP (q8j _ _),?_,HB.out⟩;rw[qc5,List.filter_append];simpa using HF.out
  ·have r5:0<x1.length:=List.length_pos_iff.2 hne
   have k5:x1.isEmpty=false:=by cases x1<;>simp_all
   have p8:=q1D hne;clear hne;cases z with
   | false =>
    gi_wp2_with (first | (refine⟨trivial,?_⟩;gi_at_call 114;refine(CallsIn.inRound l (qcx.2 l8.out)).mono ?_;rintro e w5 ⟨rfl,a9⟩))
    refine⟨G,jP a9,?_,HB.out.trans (jP a9)⟩;rw[qc5,List.filter_append];simpa[k5,<- HZ.out] using HF.out.stp (ZG (n1:=w0.heap.size) (B:=w0.heap.size) a9) (q5m _) (q5m _)
   | true =>
    obtain⟨sv,vals,q1,q2,q3,q4⟩:=HF.out.sg;generalize g6:(L0++(pr.map qdE).filter λo=>!o.isEmpty && qw ps gx o)=LL at q2 q4;rw[g6] at HF l7;have p9:=q1D g6;clear g6;obtain⟨sa,sn,sc,rfl⟩:=zV q2;have s2:=l7.out;have k7:Sg<W.heap.size:=by omega
    have m9:(qbp sa sn sc).ownBlock≠some Sg:=λe=>by have:=(HF.out.lt _ (q3 _ e)).1;omega
    gi_wp2_with (first | (refine⟨trivial,?_⟩;gi_at_call 114;refine(CallsIn.inRound l (qcx.2 l8.out)).mono ?_;rintro e w5 ⟨rfl,a9⟩;have a7:=q1D (a9.trans (qc w5 none));clear a9))
    have s0:w5.drew.cell? ⟨Sg,0,none⟩=some (.slice sa sn sc):=qa (blk a7.out (by simp) q1) rfl;have l6:=q1D q1;have l5:=q1D q2;have g8:=q1D q3;have p6:=q1D q4;clear q1 q2 q3 q4;refine K7 (by rintro⟨_,_,h⟩;exact h) (by kernel_rfl) 5 (λw'=>w'.cell? ⟨Sg,0,none⟩=some (.slice sa sn sc)) (by kernel_rfl) (by kernel_rfl) s0 (λa6=>?_);simp only[q8l,q9k,q9F,qbA,q9m,qao,qat,qbd,qae,q9y];refine tk 0 ?_;try go_frame
    refine tk 1 ?_;try go_frame
    refine rdy [2] ?_;refine cns 2 (λK hK=>?_) ?_
    ·skip
     go_simp;go_at_call 84;refine(ZW 0 w5.drew.heap.size _ x1 _ ((p4.out.kept a7.out (by simp)).mono (q5m _) a7.out.size) (q5m _) (.inl p8.out) (by omega)).mono ?_;rintro e w6 ⟨v',rfl,e9,g7⟩;obtain⟨vb,vc,rfl,-,-⟩:=g7.cell;have s6:=e9.cell s0 (by simp);have d5:=q1D e9;have q5:=q1D g7;clear e9 g7;refine hK.out _ _ (by first | exact a6 | exact s7 | exact s6 | exact(q34 _ _ none).cell a6 (by simp)) (λa6=>?_);clear hK K;try go_frame
     refine rdy [3] ?_;refine cns 3 (λK hK=>?_) ?_
     ·skip
      go_simp;refine hK.out _ _ (by first | exact a6 | exact s7 | exact s6 | exact(q34 _ _ none).cell a6 (by simp)) (λa6=>?_);clear hK K;try go_frame
      refine rdy [4] ?_;refine cns 4 (λK hK=>?_) ?_
      ·skip
       have k9:=jK (C:=w6) l5.out (λg e=>(a7.out.trans d5.out).block g (HF.out.lt g (g8.out g e)).2 (by simp));refine step_append_lies _ (by rfl) _ _ _ (by rfl) w0.heap.size 29 i0 _ 1 24 Tryp.und36 n3 m4 m3 l9 rfl (by omega) (.slice sa sn sc) LL.length vals (by rfl) (by exact k9.alloc _) ⟨w6.heap.size,0,none⟩ 1 1 [.slice vb x1.length vc] (by rfl) (by rfl) (qbg (cs:=#[.slice vb x1.length vc]) (t:=29) (fr:=(0,0)) (q7j w6 _)) (by simp[qbD]) (by omega) (by unfold maxLen;omega) (by omega) (by have:=a7.out.size;have:=d5.out.size;simp;omega) (w6.heap.size+1) (by simp) ?_;intro g' cp w7 b7 Z d8 d7;have e8:W.grownBy w7 (qbp sa sn sc).ownBlock:=(((a7.out.trans d5.out).trans (q34 w6 (.cells #[.slice vb x1.length vc] 29) none)).but _).trans ⟨Z.os,Z.tape,Z.output,Z.size,Z.block⟩;have e6:w7.heap[Sg]?=some (.cells #[.slice sa sn sc] 36 (0,0)):=(e8.block Sg k7 (λe=>m9 e.symm)).trans l6.out;have s7:w7.cell? ⟨Sg,0,none⟩=some (.slice sa sn sc):=qa e6 rfl;have z7:w7.frozen? ⟨Sg,0,none⟩=false:=qn e6;have h6:(w6.alloc (.cells #[.slice vb x1.length vc] 29)).grownBy w7 (qbp sa sn sc).ownBlock:=Z;have h8:qe W.heap.size w7.heap.size w7 (.slice vb x1.length vc) x1:=(((q5.out.alloc (.cells #[.slice vb x1.length vc] 29)).mono a7.out.size (q5m _)).kept h6 (λR e=>.inl (HF.out.lt R (g8.out R e.symm.symm)).2)).mono (q5m _) (by have:=h6.size;rw[q8f] at this;omega);have p5:=q1D h8;have p7:=q1D b7;have q7:=q1D e8;have r4:=q1D d8;have q0:=q1D d7;clear b7 Z d8 d7 h6 h8 e6 e8 k9;refine hK.out _ _ (by first | exact a6 | exact s7 | exact s6 | exact(q34 _ _ none).cell a6 (by simp)) (λa6=>?_);clear hK K;try go_frame
       refine⟨by kernel_rfl,?_⟩;simp only[qbh,qbH];go_wp2;obtain⟨m8,k0⟩:=HF.out.push l6.out l5.out g8.out p6.out q7.out p7.out (λg e=>by
        obtain rfl:g'=g:=by simpa[qak] using e
        rcases r4.out with h | h
        ·exact .inl h
        ·right
         have:=a7.out.size;have:=d5.out.size;omega) (λg e=>by
        obtain rfl:g'=g:=by simpa[qak] using e
        exact q0.out) p5.out rfl
       refine⟨_,k0 w3.heap.size Bl (by omega) (by omega),?_,HB.out.trans (k0 _ _ (by omega) (by omega))⟩;rw[qc5,List.filter_append,<- qc1,p9.out];simpa[k5,<- HZ.out] using m8
      exact qm.nil
     exact qm.nil
    exact qm.nil
 case done =>
  rintro D ys G W hD hxs ⟨hf,hb⟩ hK l4;have HF:=q1D hf;have HB:=q1D hb;have p3:=q1D hxs;clear hf hb hxs
  gi_wp2
  have hst:Stp w3.heap.size Bl G W (W.putObj D (.deferred none)):=kj _ hD l4;have m5:=HB.out.size;have hf:=HF.out.stp hst (by omega) (by omega);rw[p3.out] at hf;refine⟨by simp,.inl ⟨_,_,rfl,run_takeDeferred hK,?_⟩⟩;refine⟨.bool false,by simp[results,Tryz.results120,go_sem],rfl,G,hf,hst.tape.trans HB.out.tape,q87 m5 hst.size,λk hk hc hg=>(hst.keep k (by omega) (.inl ⟨by have:=d6.out;omega,by have:=d6.out;omega⟩)).trans (HB.out.keep k hk hc hg),HB.out.fp⟩
 case stop =>
  rintro D c pr G W hD ⟨t,ht⟩ h hK l4;exact h.elim
end Go.Proofs.YtidgnkmjgioapaaGreat
end
section
namespace Go.Proofs.YtidgnkmjgioapaaGreat
open Go.RowKit
abbrev Rec:=List (List Int) × Nat
def Jf(l:List Int):Int:=l[0]?.getD 0
def q6e(L:List (List Int)):List Int:=L[L.length - 1]?.getD []
def okF(p:Rec)(s:List Int):Bool:=!(decide (0<p.1.length) && decide (Jf s<=Jf (q6e p.1))) && decide (p.2 &&& zq s=0)
def Qo(p:Rec)(s:List Int):Rec:=(p.1++[s],p.2 ||| zq s)
def jq(S:List (List Int))(now:List Rec):List Rec:=now.flatMap λp=>(S.filter (okF p)).map (Qo p)
def fewS:Nat->List (List Int)->Nat->List Rec->Option (Option (List (List Int)))
 | 0,_,_,_=>none
 | n+1,S,all,now=>match now.find? λp=>p.2 == all with
  | some p=>some (some p.1)
  | none=>if(jq S now).length<=1000 then(if jq S now=[] then some none else fewS n S all (jq S now)) else none
def vK(w:q3g)(c1 c2:q58)(p:Rec):Prop:=RowsIn 0 w.heap.size w c1 p.1/\c2=.int .u8 (p.2:Nat)/\∀a n c,c1=.slice a n c->n<=c
def Q7(w:q3g)(v:q58)(R:List Rec):Prop :=
 ∃base cap,v=.slice base R.length cap /\
  (R≠[]->∃B o cs fr,base=some ⟨B,o,none⟩/\B<w.heap.size/\w.heap[B]?=some (.cells cs 133 fr) /\
   ∀i,i<R.length->∃p c1 c2,R[i]?=some p/\cs[o+i*2]?=some c1/\cs[o+(i*2+1)]?=some c2/\vK w c1 c2 p)
theorem vK.kept{w w':q3g}{c1 c2:q58}{p:Rec}(h:vK w c1 c2 p)(hg:w.grownBy w' none):vK w' c1 c2 p:=⟨(h.1.kept hg (by simp)).mono (q5m _) hg.size,h.2⟩
theorem Q7.at{w:q3g}{base:Option qb9}{cap k:Nat}{R:List Rec}(h:Q7 w (.slice base R.length cap) R)(hk:k<R.length):∃B o p a n c,base=some ⟨B,o,none⟩/\R[k]?=some p/\n=p.1.length/\w.cell? ⟨B,o+k*2,none⟩=some (.slice a n c)/\w.cell? ⟨B,o+k*2+1,none⟩=some (.int .u8 (p.2:Nat))/\RowsIn 0 w.heap.size w (.slice a n c) p.1/\n<=c:=by
 obtain⟨Z,cap',e,hr⟩:=h;cases e;obtain⟨B,o,cs,fr,e1,e2,e3,e4⟩:=hr (by intro e;rw[e] at hk;simp at hk);obtain⟨p,c1,c2,h1,h2,h3,h4,rfl,h5⟩:=e4 k hk;obtain⟨a,c,rfl,-,-⟩:=h4.cell;exact⟨B,o,p,a,_,c,e1,h1,rfl,by simp[qal,e3,h2],by rw[Nat.add_assoc];simp[qal,e3,h3],h4,h5 _ _ _ rfl⟩
def ZK(R:List (q58 × q58)):List q58:=R.flatMap λx=>[x.1,x.2]
theorem q5F(R:List (q58 × q58))(i:Nat)(h:i<R.length):(ZK R)[i*2]?=(R[i]?).map qdE/\(ZK R)[i*2+1]?=(R[i]?).map Prod.snd:=by
 induction R generalizing i with
 | nil=>simp at h
 | cons a t ih =>
  cases i with
  | zero=>simp[ZK]
  | succ i =>
   have:=ih i (by simpa using h);rw[show(i+1)*2=i*2+2 by omega];simpa[ZK] using this
theorem Q7.own{lo:Nat}{w:q3g}{v:q58}{R:List Rec}{C:List (q58 × q58)}(h:w.ownsRow lo 133 2 v R.length (ZK C))(hl:C.length=R.length)(hc:∀(i:Nat) (p:Rec) (x:q58 × q58),R[i]?=some p->C[i]?=some x->vK w x.1 x.2 p):Q7 w v R:=by
 obtain⟨h1,h2⟩:=h;rcases h2 with⟨rfl,h0⟩ | ⟨g,cap,cur,rfl,hb,hg,hn,hm,hs,ht⟩
 ·have:R=[]:=qbo h0
  subst this;exact⟨none,0,rfl,λh=>absurd rfl h⟩
 ·refine⟨_,cap,rfl,λ_=>⟨g,0,cur,_,rfl,(q45.1 hg).1,hg,λi hi=>?_⟩⟩
  have e1:=(q5F C i (by omega)).1;have e2:=(q5F C i (by omega)).2;have hx:C[i]?=some C[i]:=q7C (by omega);have hp:R[i]?=some R[i]:=q7C hi;rw[hx] at e1 e2;rw[<- ht,List.getElem?_take_of_lt (by omega)] at e1 e2;refine⟨R[i],_,_,hp,by simpa using e1,by simpa using e2,hc i _ _ hp hx⟩
theorem q75{w:q3g}{nb:Option qb9}{nc B:Nat}{L:List (List Int)}{x:q58}{l:List Int}(ty:q8u)(hN:RowsIn 0 w.heap.size w (.slice nb L.length nc) L)(hx:w.cell? ⟨B,0,none⟩=some x)(a7:qe 0 w.heap.size w x l)(hl:L.length<=1000) :
  ∃g cap w',(Builtin.append_ #[36,36] ty #[.slice nb L.length L.length,.slice (some ⟨B,0,none⟩) 1 1]).run Tryp.prog w=.ok (.slice (some ⟨g,0,none⟩) (L.length+1) cap) w'/\w.grownBy w' none /\
   RowsIn 0 w'.heap.size w' (.slice (some ⟨g,0,none⟩) (L.length+1) cap) (L++[l])/\L.length+1<=cap:=by
 obtain⟨i0,b6,a9,a6,a8⟩:=qch Tryp.info29p;obtain⟨xb,xc,rfl,-,-⟩:=a7.cell;have Z:∀j v,([.slice xb l.length xc]:List q58)[j]?=some v->w.cell? ((⟨B,0,none⟩:qb9).add j)=some v:=λj v hj=>by
  have:j=0:=by have:=(q8w.1 hj).1;simp at this;omega
  subst this;simp at hj;subst hj;simpa[Addr.add] using hx
 have key:∀(vals:List q58) (zs:Array q58) (cap:Nat),vals.length=L.length+1->(∀i,i<L.length+1->∃m y,(L++[l])[i]?=some m/\vals[i]?=some y/\qe 0 w.heap.size w y m) ->
   RowsIn 0 (w.drew.alloc (.cells (vals.toArray++zs) 29)).heap.size (w.drew.alloc (.cells (vals.toArray++zs) 29)) (.slice (some ⟨w.heap.size,0,none⟩) (L.length+1) cap) (L++[l]):=by
  intro vals zs cap b8 hv;have hh:(w.drew.alloc (.cells (vals.toArray++zs) 29)).heap[w.heap.size]?=some (.cells (vals.toArray++zs) 29 (0,0)):=q7j w.drew _;have hg:w.grownBy (w.drew.alloc (.cells (vals.toArray++zs) 29)) none:=(qc w none).trans (q34 _ _ none);refine⟨_,cap,by simp,by simp;omega,λ_=>⟨w.heap.size,0,_,_,rfl,qa8 _,(q45.1 hh).1,hh,λi hi=>?_⟩⟩;obtain⟨m,y,e1,e2,e3⟩:=hv i (by simpa using hi);refine⟨m,y,e1,?_,(e3.kept hg (by simp)).mono (q5m _) hg.size⟩;rw[q9m,Array.getElem?_append_left (by simp at hi ⊢;omega)];simpa using e2
 obtain⟨base,cap',e,-,hc⟩:=hN.cell;cases e;cases nb with
 | none =>
  have h0:L=[]:=by
   refine qbw λhne=>?_;obtain⟨B,o,e1,_⟩:=hc hne;cases e1
  subst h0;have hr:=run_append_nil (P:=Tryp.prog) w 36 ty 29 i0 _ Tryp.und36 b6 a9 ⟨B,0,none⟩ 1 1 [.slice xb l.length xc] (by rw[a6];rfl) Z (by omega) (by omega) (by rw[a8];omega);have:=key [.slice xb l.length xc] (qck (qbp none 0 0).cells (qdB w 1 0 29 - 1)) (qdB w 1 0 29) (by simp) (λi hi=>by
   have:i=0:=by simp at hi;omega
   subst this;exact⟨l,_,by simp,by simp,a7⟩)
  exact⟨_,_,_,hr,(qc w none).trans (q34 _ _ none),this,xW _ _ _ _⟩
 | some b =>
  by_cases hne:L=[]
  ·subst hne
   have hr:=run_append_grow (P:=Tryp.prog) w 36 ty 29 i0 _ Tryp.und36 b6 a9 b 0 0 [] (by simp) (λj v hj=>by simp at hj) ⟨B,0,none⟩ 1 1 [.slice xb l.length xc] (by rw[a6];rfl) Z (by omega) (by omega) (growslice_fits (by omega) (by rw[a8];omega));have:=key [.slice xb l.length xc] (qck (qbp none 0 0).cells (qdB w 1 0 29 - 1)) (qdB w 1 0 29) (by simp) (λi hi=>by
    have:i=0:=by simp at hi;omega
    subst this;exact⟨l,_,by simp,by simp,a7⟩)
   simp only[qae,q9m] at hr;exact⟨_,_,_,by simpa using hr,(qc w none).trans (q34 _ _ none),by simpa using this,xW _ _ _ _⟩
  ·obtain⟨B',o,e1,-,-,-,h4⟩:=hc hne
   cases e1;obtain⟨vals,b8,b9⟩:∃vals:List q58,vals.length=L.length/\∀i,i<L.length->∃m y,L[i]?=some m/\vals[i]?=some y/\w.cell? ⟨B',o+i,none⟩=some y/\qe 0 w.heap.size w y m:=by
    refine⟨(qa4 L.length).map λi=>(w.cell? ⟨B',o+i,none⟩).getD q5s,by simp,λi hi=>?_⟩;obtain⟨m,y,k1,k2,k3⟩:=h4 i hi;exact⟨m,y,k1,by simp[hi,k2],k2,k3⟩
   have b0:∀j v,vals[j]?=some v->w.cell? ((⟨B',o,none⟩:qb9).add j)=some v:=λj v hj=>by
    have c8:j<L.length:=by have:=(q8w.1 hj).1;omega
    obtain⟨m,y,k1,k2,k3,k4⟩:=b9 j c8;rw[k2] at hj;cases hj;exact kF k3
   have hr:=run_append_grow (P:=Tryp.prog) w 36 ty 29 i0 _ Tryp.und36 b6 a9 ⟨B',o,none⟩ L.length L.length vals (by rw[a6];omega) b0 ⟨B,0,none⟩ 1 1 [.slice xb l.length xc] (by rw[a6];rfl) Z (by omega) (by omega) (growslice_fits (by omega) (by rw[a8];omega));obtain⟨xv,b7⟩:∃xv,xv=qbp xb l.length xc:=⟨_,rfl⟩
   have:=key (vals++[xv]) (qck (qbp none 0 0).cells (qdB w (L.length+1) L.length 29 - (L.length+1))) (qdB w (L.length+1) L.length 29) (by simp;omega) (λi hi=>by
    by_cases c3:i<L.length
    ·obtain⟨m,y,k1,k2,k3,k4⟩:=b9 i c3
     exact⟨m,y,by rw[qaj c3];exact k1,by rw[qaj (by omega)];exact k2,k4⟩
    ·have:i=L.length:=by omega
     subst this;exact⟨l,xv,by simp,by rw[<- b8];simp,by rw[b7];exact a7⟩)
   rw[b7] at this;have e:vals.toArray++[qbp xb l.length xc].toArray=(vals++[qbp xb l.length xc]).toArray:=by simp
   rw[e] at hr;exact⟨_,_,_,hr,(qc w none).trans (q34 _ _ none),this,xW _ _ _ _⟩
theorem JR{ops:Array qbz}{o:qbz}{a:Act}{w:q3g}{K:Act->q3g->Prop}{Q:Exit->Act->q3g->Prop}{E:Prop}(Z:o.guard=none)(s x:qaH)(hop:o.op=.call { callee:=.builtin .append,args:=#[s,x],argTypes:=#[36,36] })
  {nb:Option qb9} {nc B:Nat} {L:List (List Int)} {y:q58} {l:List Int} (hs:a.eval s=.slice nb L.length L.length) (hx:a.eval x=.slice (some ⟨B,0,none⟩) 1 1) (hN:RowsIn 0 w.heap.size w (.slice nb L.length nc) L) (hy:w.cell? ⟨B,0,none⟩=some y) (hyi:qe 0 w.heap.size w y l) (hl:L.length<=1000)
  (h:∀g cap w',w.grownBy w' none->RowsIn 0 w'.heap.size w' (.slice (some ⟨g,0,none⟩) (L.length+1) cap) (L++[l])->L.length+1<=cap->K (a.put o.dst (.slice (some ⟨g,0,none⟩) (L.length+1) cap)) w') :
  if qb0 o (yielded ops a.tmps)=true then Oper.wp Tryp.prog o a w K Q else E:=by
 rw[if_pos (by simp[qb0,Z])];obtain⟨g,cap,w',hr,h2,h3,h4⟩:=q75 o.type hN hy hyi hl;unfold Oper.wp execOp;simp only[hop,resolve,invoke,builtin,qbB,Sem.run_pure,qbC,List.map_toArray,List.map_cons,List.map_nil,hs,hx,hr];exact h g cap w' h2 h3 h4
theorem few_cb{ps:List Par}{lim:Int}{Y Sg:Nat}{w0:q3g}{yb:Option qb9}{yc:Nat}(a8:w0.heap[Y]?=some (.cells #[.slice yb ps.length yc,.int .i64 lim] 91 (0,0)))(b0:qr 0 w0.heap.size w0 (.slice yb ps.length yc) ps){b6:Array q58}{f0:Nat × Nat}(a9:w0.heap[Sg]?=some (.cells b6 36 f0))(hok:YOk ps lim)
  (a7:∀x:List Int,x.Nodup->(∀y∈x,0<=y/\y<ps.length)->POk ps lim x) (hN:((zN (qQ ps.length) 0).flatMap yh).length<=1000) :
  Cb w0.heap.size (qQ ps.length) 120 #[.pointer (some ⟨Y,0,none⟩),.pointer (some ⟨Sg,0,none⟩)] (λdone G W=>Zy Sg w0 (vA ps done) G W):=by
 refine⟨?_,?_,enters_of Tryp.func120 (by kernel_rfl) rfl,?_⟩
 ·intro s G A C h hg
  exact h.stp (ZG (n1:=w0.heap.size) (B:=w0.heap.size) hg) (q5m _) (q5m _)
 ·exact λs G A h k hk=>(h.lt k hk).2
 ·rintro done G W v c hI hv - Z ⟨t,ht⟩
  obtain⟨h1,h2,h3⟩:=q5B Z;have a6:(vA ps done).length+(yh c).length<=1000:=by
   have h4:∀L:List (List Int),(vA ps L).length<=(L.flatMap yh).length:=by
    intro L;induction L with
    | nil=>simp[vA]
    | cons a L ih =>
     have:=qcd (λo:List Int=>!o.isEmpty && qw ps (pre Par.mx ps ps.length) o) (yh a);simp only[vA,qcv,qb3,q2n] at ih ⊢;omega
   rw[ht] at hN;have h5:=h4 done;simp only[List.flatMap_append,qcv,List.flatMap_nil,qb3] at hN;omega
  refine(qa9 ps lim Y Sg w0 yb yc a8 b0 a9 hok c h1 h2 (by have:=hok.len;omega) (λx _ hn hx=>a7 x hn λy hy=>h2 y (hx y hy)) (vA ps done) a6 G W hI v hv).mono ?_;rintro e W' ⟨he,G',hF,hb⟩;exact⟨he,G',by rw[q4y];exact hF,hb⟩
theorem few_sub{ps:List Par}{lim:Int}{Y Sg:Nat}{w0:q3g}{yb:Option qb9}{yc:Nat}(a7:w0.heap[Y]?=some (.cells #[.slice yb ps.length yc,.int .i64 lim] 91 (0,0)))(a8:qr 0 w0.heap.size w0 (.slice yb ps.length yc) ps)(Z:w0.heap[Sg]?=some (.cells #[.slice none 0 0] 36 (0,0)))(hok:YOk ps lim)
  (a6:∀x:List Int,x.Nodup->(∀y∈x,0<=y/\y<ps.length)->POk ps lim x) (hN:((zN (qQ ps.length) 0).flatMap yh).length<=1000) {b:Option qb9} {k:Nat} (hI:qe 0 w0.heap.size w0 (.slice b ps.length k) (qQ ps.length)) :
  qaD Tryp.prog 82 #[.slice b ps.length k,.func (.func 120) #[] #[.pointer (some ⟨Y,0,none⟩),.pointer (some ⟨Sg,0,none⟩)]] w0 λe W'=>e=.returned (.bool false)/\∃G',Zy Sg w0 (vA ps (zN (qQ ps.length) 0)) G' W':=by
 have hl:ps.length<=5:=hok.len;have h:=subA (b:=b) (c:=k) (ll:=qQ ps.length) (few_cb a7 a8 Z hok a6 hN) (by rw[qP];omega) (xM (by rw[qP];omega) (q18 _)) (by rw[qP];exact hI) (G:=Kh) ⟨rfl,rfl,rfl,q5m _,λ_ _ _=>rfl,λk h=>h.elim,qy Z,_,[],Z,qcb _ _ _ _,λg e=>by simp[qak] at e,λi hi=>by simp[vA] at hi⟩;rw[qP] at h;exact h
theorem Zy.rows{Sg:Nat}{w0:q3g}{L:List (List Int)}{G:Nat->Prop}{W:q3g}(h:Zy Sg w0 L G W)(hne:L≠[])(hL:L.length<=1000):∃B c,W.heap[Sg]?=some (.cells #[.slice (some ⟨B,0,none⟩) L.length c] 36 (0,0))/\w0.heap.size<=B/\zh w0.heap.size W.heap.size B 0 W L:=by
 obtain⟨sv,vals,h1,h2,h3,h4⟩:=h.sg;obtain⟨hl,h2⟩:=h2;rcases h2 with⟨rfl,h0⟩ | ⟨g,cap,cur,rfl,hb,hg,hn,hm,hs,ht⟩
 ·exact absurd (qbo h0) hne
 ·refine⟨g,cap,h1,hb,cur,hg,λi hi=>?_⟩
  obtain⟨l,x,e1,e2,e3,-⟩:=h4 i hi;refine⟨l,x,e1,?_,e3⟩;rw[<- ht,List.getElem?_take_of_lt (by omega)] at e2;simpa using e2
theorem zh.rows{lo hi B o:Nat}{w:q3g}{L:List (List Int)}(h:zh lo hi B o w L)(hB:B<hi)(hlo:lo<=B)(hl:L.length<=1000)(c:Nat):RowsIn lo hi w (.slice (some ⟨B,o,none⟩) L.length c) L:=by
 obtain⟨cs,h1,h2⟩:=h;exact⟨_,c,rfl,by omega,λ_=>⟨B,o,cs,_,rfl,hlo,hB,h1,h2⟩⟩
theorem q83:∀m n:Fin 32,bits .and .u8 (m.1:Int) (n.1:Int)=((m.1 &&& n.1:Nat):Int):=by decide
theorem qaw:∀m n:Fin 32,bits .or .u8 (m.1:Int) (n.1:Int)=((m.1 ||| n.1:Nat):Int):=by decide
theorem Tryp.info133p:(Tryp.prog.info? 133).map (λi=>(i.zero,i.size,i.bytes))=some (some (.agg #[.slice none 0 0,.int .u8 0]),2,32):=by kernel_rfl
theorem Tryp.und134:Tryp.prog.underlying 134=some (.slice 133):=by rw[Tryp.und];exact Tryz.underlying134
theorem RowsIn.keptT{lo hi O:Nat}{w w':q3g}{v:q58}{L:List (List Int)}(h:RowsIn lo hi w v L)(hg:w.grownBy w' (some O)){cs':Array q58}{e':q8u}{f':Nat × Nat}(hO:w.heap[O]?=some (.cells cs' e' f'))(h3:e'≠3)(Z:e'≠29):RowsIn lo hi w' v L:=by
 obtain⟨base,cap,rfl,hl,hr⟩:=h;refine⟨base,cap,rfl,hl,λhn=>?_⟩;obtain⟨B,o,cs,fr,e1,e2,e3,e4,e5⟩:=hr hn;refine⟨B,o,cs,fr,e1,e2,e3,blk hg (λe=>?_) e4,λi hi=>?_⟩
 ·cases e
  rw[e4] at hO;cases hO;exact Z rfl
 ·obtain⟨l,x,k1,k2,k3⟩:=e5 i hi
  exact⟨l,x,k1,k2,k3.keptT hg hO h3⟩
def jF(lo:Nat)(w:q3g)(v:q58)(R:List Rec):Prop :=
 ∃C:List (q58 × q58),w.ownsRow lo 133 2 v R.length (ZK C)/\C.length=R.length/\∀(i:Nat) (p:Rec) (x:q58 × q58),R[i]?=some p->C[i]?=some x->vK w x.1 x.2 p
theorem jF.nil(lo:Nat)(w:q3g):jF lo w (.slice none 0 0) []:=⟨[],qcb _ _ _ _,rfl,λi p x h=>by simp at h⟩
theorem jF.recs{lo:Nat}{w:q3g}{v:q58}{R:List Rec}(h:jF lo w v R):Q7 w v R:=by
 obtain⟨C,h1,h2,h3⟩:=h;exact Q7.own h1 h2 h3
theorem jF.kept{lo:Nat}{w w':q3g}{v:q58}{R:List Rec}(h:jF lo w v R)(hg:w.grownBy w' none):jF lo w' v R:=by
 obtain⟨C,h1,h2,h3⟩:=h;exact⟨C,jK h1 λg e=>hg.block g (h1.lt g e).2 (by simp),h2,λi p x e1 e2=>(h3 i p x e1 e2).kept hg⟩
theorem q77(C:List (q58 × q58))(x:q58 × q58):ZK (C++[x])=ZK C++[x.1,x.2]:=by simp[ZK]
theorem vK.app{lo n:Nat}{w w':q3g}{v c1 c2:q58}{xs:List q58}{p:Rec}(hq:vK w c1 c2 p)(h1:w.ownsRow lo 133 2 v n xs)(hg:w.grownBy w' v.ownBlock):vK w' c1 c2 p:=by
 refine⟨?_,hq.2⟩;rcases h1.2 with⟨rfl,_⟩ | ⟨g,cap,cur,rfl,hb,hgb,_⟩
 ·exact(RowsIn.kept hq.1 hg (by simp[qak])).mono (q5m _) hg.size
 ·exact(RowsIn.keptT hq.1 (O:=g) hg hgb (by decide) (by decide)).mono (q5m _) hg.size
theorem KX(S:List (List Int))(recs:List Rec):(jq S recs).length<=recs.length*S.length:=by
 unfold jq;induction recs with
 | nil=>simp
 | cons a t ih =>
  have:=qcd (okF a) S;simp only[qcv,qb3,qcl,q8l];rw[Nat.add_mul];omega
theorem jF.push{lo:Nat}{w w':q3g}{v v':q58}{R:List Rec}{C:List (q58 × q58)}{c1 c2:q58}{p:Rec}(h1:w.ownsRow lo 133 2 v R.length (ZK C))(h2:C.length=R.length)(h3:∀(i:Nat) (p:Rec) (x:q58 × q58),R[i]?=some p->C[i]?=some x->vK w x.1 x.2 p)
  (hg:w.grownBy w' v.ownBlock) (hown:w'.ownsRow lo 133 2 v' (R.length+1) (ZK C++[c1,c2])) (hr:vK w' c1 c2 p):jF lo w' v' (R++[p]):=by
 refine⟨C++[(c1,c2)],by rw[q77,qb3];exact hown,by simp[h2],λi q x e1 e2=>?_⟩;by_cases hi:i<R.length
 ·rw[qaj hi] at e1
  rw[qaj (by omega)] at e2;exact(h3 i q x e1 e2).app h1 hg
 ·have Z:i=R.length:=by
   have:=(q8w.1 e1).1;simp at this;omega
  subst Z;rw[qco (q5m _)] at e1;rw[qco (by omega)] at e2;simp[h2] at e1 e2;subst e1 e2;exact hr
def RecOk(S:List (List Int))(recs:List Rec):Prop:=recs.length<=1000/\∀p∈recs,(∀r∈p.1,r∈S)/\p.2<32/\p.1.length<=100
def FewP(S:List (List Int))(al:Nat)(R:List (List Int))(v:q58)(w:q3g)(m:Nat):Prop:=∃recs,Q7 w v recs/\RecOk S recs/\(∀p∈recs,p.1.length+m<=100)/\fewS m S al recs=some (some R)
open Classical in
noncomputable def Ja(P:Nat->Prop):Nat->Nat
 | 0=>0
 | n+1=>if P (Ja P n) then Ja P n else n+1
theorem q3a(P:Nat->Prop):∀n,Ja P n<=n
 | 0=>q5m _
 | n+1=>by
  have:=q3a P n;unfold Ja;split<;>omega
theorem vZ(P:Nat->Prop):∀n m,m<=n->P m->P (Ja P n)/\Ja P n<=m
 | 0,m,h,hp=>by
  obtain rfl:m=0:=by omega
  exact⟨hp,q5m _⟩
 | n+1,m,h,hp=>by
  unfold Ja;split
  ·rename_i hl
   refine⟨hl,?_⟩;by_cases hm:m<=n
   ·exact(vZ P n m hm hp).2
   ·have:=q3a P n
    omega
  ·rename_i hl
   have:¬ m<=n:=λhm=>hl (vZ P n m hm hp).1;obtain rfl:m=n+1:=by omega
   exact⟨hp,q5m _⟩
noncomputable def q5G(S:List (List Int))(al:Nat)(R:List (List Int))(v:q58)(w:q3g):Nat:=Ja (FewP S al R v w) 100
theorem q4D{S:List (List Int)}{al:Nat}{R:List (List Int)}{v:q58}{w:q3g}{m:Nat}(hm:m<=100)(h:FewP S al R v w m):FewP S al R v w (q5G S al R v w):=(vZ _ 100 m hm h).1
theorem q2r{S:List (List Int)}{al:Nat}{R:List (List Int)}{v:q58}{w:q3g}{m:Nat}(hm:m<=100)(h:FewP S al R v w m):q5G S al R v w<=m:=(vZ _ 100 m hm h).2
theorem q50{S:List (List Int)}{recs:List Rec}{k:Nat}{p:Rec}(h:recs[k]?=some p):jq S (recs.take (k+1))=jq S (recs.take k)++(S.filter (okF p)).map (Qo p):=by
 rw[qbc,h];simp[jq]
theorem q04{S:List (List Int)}{recs:List Rec}{q:Rec}(h:q∈jq S recs):∃p∈recs,∃s∈S,q=Qo p s:=by
 simp only[jq,List.mem_flatMap,List.mem_map,List.mem_filter] at h;obtain⟨p,hp,s,⟨hs,-⟩,rfl⟩:=h;exact⟨p,hp,s,hs,rfl⟩
theorem QV(z:Array q58)(h:z.size=123):∃t:Nat->q58,(∀(j:Nat) (v:q58),z[j]?=some v->t j=v)/\z=#[t 0,t 1,t 2,t 3,t 4,t 5,t 6,t 7,t 8,t 9,t 10,t 11,t 12,t 13,t 14,t 15,t 16,t 17,t 18,t 19,t 20,t 21,t 22,t 23,t 24,t 25,t 26,t 27,t 28,t 29,t 30,t 31,t 32,t 33,t 34,t 35,t 36,t 37,t 38,t 39,t 40,t 41,t 42,t 43,t 44,t 45,t 46,t 47,t 48,t 49,t 50,t 51,t 52,t 53,t 54,t 55,t 56,t 57,t 58,t 59,t 60,t 61,t 62,t 63,t 64,t 65,t 66,t 67,t 68,t 69,t 70,t 71,t 72,t 73,t 74,t 75,t 76,t 77,t 78,t 79,t 80,t 81,t 82,t 83,t 84,t 85,t 86,t 87,t 88,t 89,t 90,t 91,t 92,t 93,t 94,t 95,t 96,t 97,t 98,t 99,t 100,t 101,t 102,t 103,t 104,t 105,t 106,t 107,t 108,t 109,t 110,t 111,t 112,t 113,t 114,t 115,t 116,t 117,t 118,t 119,t 120,t 121,t 122]:=by
 have h1:=Ql z;rw[h] at h1;exact⟨λj=>z[j]?.getD q5s,λj v e=>by show z[j]?.getD q5s=v;rw[e];rfl,h1.trans rfl⟩
def swp(s:List Int)(i:Nat):List Int:=(s.set i (s[i+1]?.getD 0)).set (i+1) (s[i]?.getD 0)
theorem q5z(s:List Int)(i:Nat):(swp s i).length=s.length:=by simp[swp]
def Z1(kn:List (List Int) × List (List Int))(m:List Int):List (List Int) × List (List Int):=if m∈kn.1 then kn else(kn.1++[m],kn.2++[m])
def exp1(n:Nat)(kn:List (List Int) × List (List Int))(s:List Int):List (List Int) × List (List Int):=(qa4 (n - 1)).foldl (λkn i=>Z1 kn (swp s i)) kn
def expA(n:Nat)(K now:List (List Int)):List (List Int) × List (List Int):=now.foldl (exp1 n) (K,[])
def jA(ps:List Par)(now:List (List Int)):Bool × List Int:=now.foldl (λb s=>if qw ps (pre Par.mx ps ps.length) (z6 s)=true then(true,if b.1=true/\q0j (z6 s) b.2=false then b.2 else z6 s) else b) (false,[])
def okS(ps:List Par)(lim:Int)(s:List Int):Bool:=decide (s.length=5) && (decide (z6 s≠[]) && (decide (z6 s).Nodup && ((z6 s).all (λx=>decide (0<=x/\x<ps.length)) && decide (zj ps (z6 s)<=lim))))
theorem xR{ps:List Par}{lim:Int}{s:List Int}(h:okS ps lim s=true):s.length=5/\z6 s≠[]/\POk ps lim (z6 s):=by
 simp only[okS,q9b,decide_eq_true_eq,qau] at h;obtain⟨h1,h2,h3,h4,h5⟩:=h;exact⟨h1,h2,h4,h3,h5,by have:=Kw s (λy=>y != -1);unfold z6;omega⟩
def q03(ps:List Par)(lim:Int)(n:Nat):Nat->List (List Int)->List (List Int)->Int->Option (Option (Int × List Int))
 | 0,_,_,_=>none
 | f+1,K,now,st=>if now.all (okS ps lim)=true/\now.length<=1000 then
   (if(jA ps now).1=true then some (some (st,(jA ps now).2))
    else if(expA n K now).2.length<=1000 then(if(expA n K now).2=[] then some none else q03 ps lim n f (expA n K now).1 (expA n K now).2 (st+1)) else none)
  else none
def kA(L:List (List Int)):List q58:=L.flatMap λs=>s.map (q9q .i64)
theorem q7s{L:List (List Int)}(h:∀s∈L,s.length=5)(i:Nat)(s:List Int)(hi:L[i]?=some s)(d:Nat)(hd:d<5):(kA L)[i*5+d]?=some (.int .i64 (s[d]?.getD 0)):=by
 induction L generalizing i with
 | nil=>simp at hi
 | cons s0 L ih =>
  have h0:=h s0 (by simp);unfold kA;rw[qcv];cases i with
  | zero =>
   simp at hi;subst hi;rw[qaj (by simp;omega),Nat.zero_mul,q9m,List.getElem?_map,q7C (by omega)];rfl
  | succ i =>
   rw[qco (by simp;omega),qcl,h0,show(i+1)*5+d - 5=i*5+d by omega];exact ih (λt ht=>h t (by simp[ht])) i (by simpa using hi)
theorem q5a(L:List (List Int))(s:List Int):kA (L++[s])=kA L++s.map (q9q .i64):=by simp[kA]
def jh(w:q3g)(v:q58)(L:List (List Int)):Prop :=
 ∃base cap,v=.slice base L.length cap /\
  (L≠[]->∃B o cs fr,base=some ⟨B,o,none⟩/\w.heap[B]?=some (.cells cs 118 fr)/\∀i s,L[i]?=some s->∀d,d<5->cs[o+i*5+d]?=some (.int .i64 (s[d]?.getD 0)))
theorem jh.kept{w w':q3g}{v:q58}{L:List (List Int)}(h:jh w v L)(hk:∀(k:Nat) (cs:Array q58) (fr:Nat × Nat),w.heap[k]?=some (Obj.cells cs 118 fr)->w'.heap[k]?=some (Obj.cells cs 118 fr)):jh w' v L:=by
 obtain⟨base,cap,rfl,hr⟩:=h;refine⟨base,cap,rfl,λhne=>?_⟩;obtain⟨B,o,cs,fr,e1,e2,e3⟩:=hr hne;exact⟨B,o,cs,fr,e1,hk B _ _ e2,e3⟩
theorem jh.keptM{w w':q3g}{v:q58}{L:List (List Int)}{M:Nat}(h:jh w v L)(hg:w.grownBy w' (some M))(hm:∀cs fr,w.heap[M]?≠some (Obj.cells cs 118 fr)):jh w' v L:=h.kept λk cs fr e=>(hg.block k (qy e) (λh=>hm cs fr (by cases h;exact e))).trans e
theorem zL.not{w:q3g}{M:Nat}{K:List (List Int)}(h:zL w M K)(cs:Array q58)(t:q8u)(fr:Nat × Nat):w.heap[M]?≠some (Obj.cells cs t fr):=by
 obtain⟨es,clock,h1,-⟩:=h;rw[h1];intro e;cases e
theorem jh.own{lo:Nat}{w:q3g}{v:q58}{L:List (List Int)}(h:w.ownsRow lo 118 5 v L.length (kA L))(h5:∀s∈L,s.length=5):jh w v L:=by
 obtain⟨h1,h2⟩:=h;rcases h2 with⟨rfl,h0⟩ | ⟨g,cap,cur,rfl,hb,hg,hn,hm,hs,ht⟩
 ·have:L=[]:=qbo h0
  subst this;exact⟨none,0,rfl,λh=>absurd rfl h⟩
 ·refine⟨_,cap,rfl,λ_=>⟨g,0,cur,_,rfl,hg,λi s hi d hd=>?_⟩⟩
  have Z:=(q8w.1 hi).1;have:=q7s h5 i s hi d hd;rw[<- ht,List.getElem?_take_of_lt (by omega)] at this;simpa using this
theorem jh.at{w:q3g}{base:Option qb9}{n cap k:Nat}{L:List (List Int)}(h:jh w (.slice base n cap) L){s:List Int}(hk:L[k]?=some s):∃B o,base=some ⟨B,o,none⟩/\B<w.heap.size/\w.cell? ⟨B,o+k*5,none⟩=some (.int .i64 (s[0]?.getD 0))/\w.cell? ⟨B,o+k*5+1,none⟩=some (.int .i64 (s[1]?.getD 0))/\w.cell? ⟨B,o+k*5+2,none⟩=some (.int .i64 (s[2]?.getD 0))/\w.cell? ⟨B,o+k*5+3,none⟩=some (.int .i64 (s[3]?.getD 0))/\w.cell? ⟨B,o+k*5+4,none⟩=some (.int .i64 (s[4]?.getD 0)):=by
 obtain⟨Z,cap',e,hr⟩:=h;cases e;obtain⟨B,o,cs,fr,e1,e2,e3⟩:=hr (by intro e;rw[e] at hk;simp at hk);have c:=e3 k s hk;exact⟨B,o,e1,qy e2,qa e2 (c 0 (by omega)),qa e2 (c 1 (by omega)),qa e2 (c 2 (by omega)),qa e2 (c 3 (by omega)),qa e2 (c 4 (by omega))⟩
theorem Tryp.info118p:(Tryp.prog.info? 118).map (λi=>(i.zero,i.size,i.bytes))=some (some (.agg #[.int .i64 0,.int .i64 0,.int .i64 0,.int .i64 0,.int .i64 0]),5,40):=by kernel_rfl
theorem Tryp.und121:Tryp.prog.underlying 121=some (.slice 118):=by rw[Tryp.und];exact Tryz.underlying121
end Go.Proofs.YtidgnkmjgioapaaGreat
end
section
namespace Go.Proofs.YtidgnkmjgioapaaGreat
open Go Go.RowKit Go.Co
noncomputable def mX8:qcm:=sqB (sqB (sqB (sqB (sqB (sqB (sqB (inn (sqB (Tryz.f54.body.getD .skip)))))))))
noncomputable def mX10:qcm:=sqB (sqB mX8)
noncomputable def mLA:qcm:=inn (sqB (sqA mX10))
noncomputable def mX19:qcm:=sqB (sqB mX10)
noncomputable def mLB:qcm:=inn (sqB (sqA mX19))
noncomputable def mB3:qcm:=inn (sqA (sqB (sqB (inn mLB))))
noncomputable def mLC:qcm:=inn (sqB (sqB mB3))
def Kp(ks:List Nat)(z z':Array q58):Prop:=∀j∈ks,z'[j]?=z[j]?
theorem q9H(ks:List Nat)(z z':Array q58)(hz:z'.size=123)(hk:Kp ks z z'):z'=((qa4 123).map λj=>bif ks.elem j then z[j]?.getD q5s else z'[j]?.getD q5s).toArray:=by
 have h1:=Ql z';rw[hz] at h1;refine h1.trans (congrArg List.toArray (List.map_congr_left λj hj=>?_));cases hc:ks.elem j with
 | false=>rfl
 | true =>
  show z'[j]?.getD q5s=z[j]?.getD q5s;rw[hk j (List.elem_iff.1 hc)]
def vH(k:Nat)(kn:List (List Int) × List (List Int))(s:List Int):List (List Int) × List (List Int):=(qa4 k).foldl (λkn i=>Z1 kn (swp s i)) kn
theorem Qm(k:Nat)(kn:List (List Int) × List (List Int))(s:List Int):vH (k+1) kn s=Z1 (vH k kn s) (swp s k):=by simp[vH,List.range_succ]
theorem q6z(kn:List (List Int) × List (List Int))(m:List Int):(Z1 kn m).2.length<=kn.2.length+1:=by
 unfold Z1;split<;>simp
theorem q3s(k:Nat)(kn:List (List Int) × List (List Int))(s:List Int):(vH k kn s).2.length<=kn.2.length+k:=by
 induction k with
 | zero=>simp[vH]
 | succ k ih=>rw[Qm];have:=q6z (vH k kn s) (swp s k);omega
theorem q48{kn:List (List Int) × List (List Int)}{m:List Int}(h:∀s∈kn.2,s.length=5)(hm:m.length=5):∀s∈(Z1 kn m).2,s.length=5:=by
 unfold Z1;split
 ·exact h
 ·intro s hs
  rcases qcz.1 hs with h1 | h1
  ·exact h s h1
  ·rw[List.mem_singleton.1 h1];exact hm
theorem q7y{k:Nat}{kn:List (List Int) × List (List Int)}{s:List Int}(h:∀s∈kn.2,s.length=5)(hs:s.length=5):∀t∈(vH k kn s).2,t.length=5:=by
 induction k with
 | zero=>simpa[vH] using h
 | succ k ih=>rw[Qm];exact q48 ih (by rw[q5z];exact hs)
theorem xB{P:q8b}{c:qcm}{Q:Exit->Act->q3g->Prop}{a:Act}{w:q3g}(F:q3g->Prop)(hF:F w)(h:∀u,F u->c.wp P Q a u):c.wp P Q a w:=h w hF
structure SwapC(Sb i:Nat)(s:List Int)(a b:Int)(w:q3g):Prop where
 fst:w.cell? ⟨Sb,i,none⟩=some (.int .i64 a)
 snd:w.cell? ⟨Sb,i+1,none⟩=some (.int .i64 b)
 mid:∀W:q3g,W.heap=w.heap->(W.setCell ⟨Sb,i,none⟩ (.int .i64 b)).cell? ⟨Sb,i+1,none⟩=some (.int .i64 b)/\(W.setCell ⟨Sb,i,none⟩ (.int .i64 b)).frozen? ⟨Sb,i+1,none⟩=false
 fin:∀W:q3g,W.heap=w.heap->((W.setCell ⟨Sb,i,none⟩ (.int .i64 b)).setCell ⟨Sb,i+1,none⟩ (.int .i64 a)).heap[Sb]?=some (.cells ((swp s i).map (q9q .i64)).toArray 118 (0,0))
theorem zA{w:q3g}{Sb i:Nat}{s:List Int}{a b:Int}(h:w.heap[Sb]?=some (.cells (s.map (q9q .i64)).toArray 118 (0,0)))(ha:s[i]?=some a)(hb:s[i+1]?=some b):SwapC Sb i s a b w where
 fst:=qa h (by simp[ha])
 snd:=qa h (by simp[hb])
 mid W e:=by
  have h1:=qh (o:=i) (v:=.int .i64 b) (show W.heap[Sb]?=_ by rw[e];exact h);refine⟨qa h1 ?_,qn h1⟩;rw[qbj (by omega)];simp[hb]
 fin W e:=by
  have h1:=qh (o:=i+1) (v:=.int .i64 a) (qh (o:=i) (v:=.int .i64 b) (show W.heap[Sb]?=_ by rw[e];exact h));rw[h1];unfold swp;rw[ha,hb];simp[List.map_set]
theorem swp_swp{s:List Int}{i:Nat}{a b:Int}(ha:s[i]?=some a)(hb:s[i+1]?=some b):swp (swp s i) i=s:=by
 apply List.ext_getElem?;intro j;simp only[swp,ha,hb,List.getElem?_set,List.length_set];have h1:=(q8w.1 ha).1;have h2:=(q8w.1 hb).1;by_cases e1:i+1=j
 ·subst e1;rw[hb];simp[h1,h2]
 ·by_cases e2:i=j
  ·subst e2;rw[ha];simp[h1,h2]
  ·simp[e1,e2]
theorem swp_at{s:List Int}{i:Nat}{a b:Int}(ha:s[i]?=some a)(hb:s[i+1]?=some b):(swp s i)[i]?=some b/\(swp s i)[i+1]?=some a:=by
 have h1:=(q8w.1 ha).1;have h2:=(q8w.1 hb).1;unfold swp;rw[ha,hb];constructor
 ·rw[qds (by omega)];simp[h1]
 ·simp[h2]
structure McI(w1 u:q3g)(M Sb:Nat)(kn:List (List Int) × List (List Int))(nv:q58)(s:List Int):Prop where
 g:w1.grownBy u (some M)
 m:zL u M kn.1
 o:u.ownsRow w1.heap.size 118 5 nv kn.2.length (kA kn.2)
 n:∀b,nv.ownBlock=some b->b≠Sb
 s:u.heap[Sb]?=some (.cells (s.map (q9q .i64)).toArray 118 (0,0))
theorem McI.kept{w1 u u':q3g}{M Sb:Nat}{kn:List (List Int) × List (List Int)}{nv:q58}{s s':List Int}(h:McI w1 u M Sb kn nv s)(hM:M<w1.heap.size)(Z:w1.heap.size<=Sb)(hg:u.grownBy u' (some Sb))(hs:u'.heap[Sb]?=some (.cells (s'.map (q9q .i64)).toArray 118 (0,0))):McI w1 u' M Sb kn nv s' where
 g:=h.g.andThen hg (λj e=>.inl (by cases e;exact Z))
 m:=h.m.kept (hg.block M (q8m hM h.g.size) (λe=>by cases e;omega))
 o:=h.o.kept hg (.inr λe=>h.n _ e rfl)
 n:=h.n
 s:=hs
theorem McI.swap{w1 u:q3g}{M Sb i:Nat}{kn:List (List Int) × List (List Int)}{nv:q58}{s:List Int}{a b:Int}(h:McI w1 u M Sb kn nv s)(hM:M<w1.heap.size)(Z:w1.heap.size<=Sb)(ha:s[i]?=some a)(hb:s[i+1]?=some b) :
  McI w1 (((u.setCell ⟨Sb,i,none⟩ (.int .i64 b)).setCell ⟨Sb,i+1,none⟩ (.int .i64 a)).drew) M Sb kn nv (swp s i) :=
 h.kept hM Z (((qg _ _ _ _).trans (qg _ _ _ _)).trans (qc _ _)) ((zA h.s ha hb).fin u rfl)
theorem McI.put{w1 u u':q3g}{M Sb:Nat}{K nx:List (List Int)}{nv:q58}{s m:List Int}(h:McI w1 u M Sb (K,nx) nv s)(hM:M<w1.heap.size){o:Obj}(hu:u'=u.putObj M o)(hm:zL u' M (K++[m])):McI w1 u' M Sb (K++[m],nx) nv s:=by
 have hb:=h.g.size;have hg:u.grownBy u' (some M):=by rw[hu];exact grownBy_putObj' u M o
 refine⟨h.g.trans hg,hm,h.o.kept hg (.inr λe=>?_),h.n,(hg.block Sb (qy h.s) (λe=>?_)).trans h.s⟩
 ·have:=(h.o.lt M e).1
  omega
 ·cases e
  exact h.m.not _ _ _ h.s
theorem McI.push{w1 u u':q3g}{M Sb:Nat}{K nx:List (List Int)}{oa:Option qb9}{om oc:Nat}{s m:List Int}(h:McI w1 u M Sb (K,nx) (.slice oa om oc) s)(hM:M<w1.heap.size){x:Obj}{gi cap:Nat}
  (hg:(u.alloc x).grownBy u' (qbp oa om oc).ownBlock) (ho:u'.ownsRow w1.heap.size 118 5 (.slice (some ⟨gi,0,none⟩) (nx.length+1) cap) (nx.length+1) (kA nx++m.map (q9q .i64))) (a6:(qbp oa om oc).ownBlock=some gi\/gi=u.heap.size+1) :
  McI w1 u' M Sb (K,nx++[m]) (.slice (some ⟨gi,0,none⟩) (nx.length+1) cap) s:=by
 have hb:=h.g.size;have hs:=qy h.s;have Z:=q34 u x none;refine⟨(h.g.andThen Z (by simp)).andThen hg (λj e=>.inl (h.o.lt j e).1),h.m.kept ((hg.block M (by rw[q8f];omega) (λe=>?_)).trans (Z.block M (by omega) (by simp))),?_,λb e=>?_,(hg.block Sb (by rw[q8f];omega) (λe=>h.n Sb e.symm rfl)).trans (qp h.s)⟩
 ·have:=(h.o.lt M e.symm).1
  omega
 ·rw[q5a,qb3]
  exact ho
 ·have e':gi=b:=by simpa[qak] using e
  subst e';rcases a6 with h1 | h1
  ·exact h.n _ h1
  ·omega
theorem q6x{kn:List (List Int) × List (List Int)}{m:List Int}(h:m∈kn.1):Z1 kn m=kn:=if_pos h
theorem q6y{kn:List (List Int) × List (List Int)}{m:List Int}(h:m∉kn.1):Z1 kn m=(kn.1++[m],kn.2++[m]):=if_neg h
def cCh:List Nat:=[0,1,2,3,4,5,6,7,8,9,10,12,13,14,15,16,17,18,19,23,24,25,26,27,28,29,30,31,32,33,34,35,36,37,38,39,40,41,42,43,44,45,46,47,48,49,50,51,52,53,54,55,56,57,58,59,60,61,62,63,64,65,66,67,68,69,70,115,116,117,118,119,120,121,122]
theorem mendC(z:Array q58)(hz:z.size=123)(w1 w:q3g)(R:Act->q3g->Prop)(n1 M Sb:Nat)(st:Int)(s:List Int)(K nx:List (List Int))(nv:q58)
  (h9:z[9]?=some (.map (some M))) (k9:z[11]?=some nv) (k8:z[12]?=some (.int .i64 st)) (k7:z[19]?=some (.pointer (some ⟨Sb,0,none⟩))) (k6:z[70]?=some (.int .i64 n1)) (k5:z[71]?=some (.int .i64 0)) (hn:n1<=4) (hs:s.length=5)
  (hM:M<w1.heap.size) (e5:w1.heap.size<=Sb) (hS:w.heap[Sb]?=some (.cells (s.map (q9q .i64)).toArray 118 (0,0))) (hg:w1.grownBy w (some M)) (hK:zL w M K) (ho:w.ownsRow w1.heap.size 118 5 nv nx.length (kA nx)) (hne:∀b,nv.ownBlock=some b->b≠Sb) (n9:nx.length+n1<=100000) (hst:0<=st/\st<=100000) (h5:∀s∈nx,s.length=5)
  (hR:∀(z':Array q58) (g5:q58) w',z'.size=123->z'[11]?=some g5->Kp cCh z z'->w1.grownBy w' (some M)->zL w' M (vH n1 (K,nx) s).1->w'.ownsRow w1.heap.size 118 5 g5 (vH n1 (K,nx) s).2.length (kA (vH n1 (K,nx) s).2)->R ⟨z',[]⟩ w') :
  mLC.wp Tryp.prog (qe5 4 (yg R)) ⟨z,[]⟩ w:=by
 obtain⟨i0,m7,m6,m5,l9⟩:=qch Tryp.info118p;obtain⟨t,ht,rfl⟩:=QV z hz;have e9:=ht 9 _ h9;have l5:=ht 11 _ k9;have e8:=ht 12 _ k8;have e7:=ht 19 _ k7;have e6:=ht 70 _ k6;have l4:=ht 71 _ k5;clear ht h9 k9 k8 k7 k6 k5;rw[e9,l5,e8,e7,e6,l4];have HE:=q1D (q8D e9 (q8D e8 (q8D e7 e6)));clear e9 l5 e8 e7 e6 l4;have HR:=q1D hR;have HG:=q1D hg;have HS:=q1D hS;have HK:=q1D hK;have HO:=q1D ho;have m9:=q1D hne;have H5:=q1D h5;clear hR hg hS hK ho hne hz h5;simp only[mLC,mB3,mLB,mX19,mX10,mX8,Tryz.f54,q88,sqA,sqB,inn];go_wp2;go_loopw [11,71] (λnv iv wr=>∃i:Nat,iv=.int .i64 i/\i<=n1/\McI w1 wr M Sb (vH i (K,nx) s) nv s) (λ_ iv _=>(n1 - qb2 iv).toNat)
 case atStart=>exact⟨0,rfl,by omega,HG.out,HK.out,HO.out,m9.out,HS.out⟩
 case round =>
  obtain⟨i,rfl,hi,hI⟩:=hrel;obtain⟨oa,om,oc,rfl⟩:=zV hI.o;have HI:=q1D hI;have c9:=q3s i (K,nx) s;by_cases hlt:i<n1
  ·obtain⟨a,ha⟩:∃a,s[i]?=some a:=⟨_,q7C (by omega)⟩
   obtain⟨b,hb⟩:∃b,s[i+1]?=some b:=⟨_,q7C (by omega)⟩
   obtain⟨q,hq⟩:∃q,q=swp s i:=⟨_,rfl⟩
   have g9:q[i]?=some b:=by rw[hq];exact(swp_at ha hb).1
   have g8:q[i+1]?=some a:=by rw[hq];exact(swp_at ha hb).2
   have g7:swp q i=s:=by rw[hq];exact swp_swp ha hb
   have d9:q.length=5:=by rw[hq,q5z];exact hs
   have n8:(i:Int)<(n1:Int):=by omega
   have p4:IntKind.i64.wrap (i:Int)=(i:Int):=qa7 _ (by omega);have p3:IntKind.i64.wrap ((i:Int)+1)=(i:Int)+1:=qa7 _ (by omega);have n7:IntKind.i64.wrap (st+1)=st+1:=qa7 _ (by omega);have p8:((i:Int)+1).toNat=i+1:=by omega
   have q0:(i:Int)<5:=by omega
   have p9:(i:Int)+1<5:=by omega
   have p6:(0:Int)<=(i:Int)+1:=by omega
   have hu:(0:Int)<=(i:Int):=by omega
   have ca:=(zA hI.s ha hb).fst;have cb:=(zA hI.s ha hb).snd;have za:=qn hI.s (o:=i);have zb:=qn hI.s (o:=i+1);have b6:=q1D (zA hI.s ha hb).mid;have SW:=q1D (hI.swap hM e5 ha hb);have AB:=q1D (q8D ha hb);have HQ:=q1D (q8D g9 g8);have d6:=q1D (q8D g7 hq);clear hI ha hb g9 g8 g7;go_wp2_with (fail);refine qR 12 (λw'=>w'.cell? ⟨Sb,i+1,none⟩=some (.int .i64 b)/\w'.frozen? ⟨Sb,i+1,none⟩=false) (by kernel_rfl) (by kernel_rfl) ⟨cb,zb⟩ (λZ=>?_);simp only[q8l,q9k,q9F,qbA,q9m,qao,qat,qbd,qae,q9y];refine tk 0 ?_;try go_frame
   refine tk 1 ?_;try go_frame
   refine tk 2 ?_;try go_frame
   refine tk 3 ?_;try go_frame
   refine tk 4 ?_;try go_frame
   refine tk 5 ?_;try go_frame
   refine tk 6 ?_;try go_frame
   refine tk 7 ?_;try go_frame
   refine tk 8 ?_;try go_frame
   refine rdy [9] ?_;refine cns 9 (λK hK=>?_) ?_
   ·skip
    go_simp;refine hK.out _ _ (by first | exact Z | exact⟨cb,zb⟩ | exact b6.out _ rfl) (λZ=>?_);clear hK K;try go_frame
    refine tk 10 ?_;try go_frame
    refine rdy [11] ?_;refine cns 11 (λK hK=>?_) ?_
    ·skip
     go_simp;refine hK.out _ _ (by first | exact Z | exact⟨cb,zb⟩ | exact b6.out _ rfl) (λZ=>?_);clear hK K;try go_frame
     refine⟨by kernel_rfl,?_⟩;simp only[qbh,qbH];go_upto_region 26 with(fail)
     refine xB (λu=>McI w1 u M Sb (vH i (K,nx) s) (.slice oa om oc) q) (by rw[d6.out.2];exact SW.out) (λu b7=>?_);have d7:=q1D b7;obtain⟨m0,m1,m2,m3,m4,a9⟩:=len5 d9;have a6:=b7.s;rw[a9] at a6;have b0:=qa a6 (o:=0) (v:=.int .i64 m0) rfl;have b1:=qa a6 (o:=1) (v:=.int .i64 m1) rfl;have b2:=qa a6 (o:=2) (v:=.int .i64 m2) rfl;have b3:=qa a6 (o:=3) (v:=.int .i64 m3) rfl;have b4:=qa a6 (o:=4) (v:=.int .i64 m4) rfl;obtain⟨vl,b8⟩:=b7.m.look q d9;obtain⟨kn,e4⟩:∃kn,kn=vH i (K,nx) s:=⟨_,rfl⟩
     rw[<- e4] at b8 d7 HI c9;have l7:=q1D e4;have l6:=q1D a9;clear b7 a6 e4 Z;obtain⟨K1,b9⟩:=kn;dsimp only at b8 c9;by_cases a8:q∈K1
     ·rw[decide_eq_true a8,a9] at b8
      have c8:(Instr.lookup 120 (.map (some M)) (.agg #[.int .i64 m0,.int .i64 m1,.int .i64 m2,.int .i64 m3,.int .i64 m4]) true).run Tryp.prog u=.ok (.tuple #[.int .i64 vl,.bool true]) u:=b8;clear b8 a9;have HV:=q1D (q6x (kn:=(K1,b9)) a8);clear a8;go_upto_region 30 with(fail)
      clear b0 b1 b2 b3 b4 c8;clear ca cb za zb b6 SW AB;have a7:=d7.out;obtain⟨ha,hb⟩:=HQ.out;have ca:=(zA a7.s ha hb).fst;have cb:=(zA a7.s ha hb).snd;have za:=qn a7.s (o:=i);have zb:=qn a7.s (o:=i+1);have b6:=q1D (zA a7.s ha hb).mid;have SW:=q1D (a7.swap hM e5 ha hb);have AB:=q1D (q8D ha hb);clear a7 ha hb;go_wp2_with (fail);refine qR 12 (λw'=>w'.cell? ⟨Sb,i+1,none⟩=some (.int .i64 a)/\w'.frozen? ⟨Sb,i+1,none⟩=false) (by kernel_rfl) (by kernel_rfl) ⟨cb,zb⟩ (λZ=>?_);simp only[q8l,q9k,q9F,qbA,q9m,qao,qat,qbd,qae,q9y];refine tk 0 ?_;try go_frame
      refine tk 1 ?_;try go_frame
      refine tk 2 ?_;try go_frame
      refine tk 3 ?_;try go_frame
      refine tk 4 ?_;try go_frame
      refine tk 5 ?_;try go_frame
      refine tk 6 ?_;try go_frame
      refine tk 7 ?_;try go_frame
      refine tk 8 ?_;try go_frame
      refine rdy [9] ?_;refine cns 9 (λK hK=>?_) ?_
      ·skip
       go_simp;refine hK.out _ _ (by first | exact Z | exact⟨cb,zb⟩ | exact b6.out _ rfl) (λZ=>?_);clear hK K;try go_frame
       refine tk 10 ?_;try go_frame
       refine rdy [11] ?_;refine cns 11 (λK hK=>?_) ?_
       ·skip
        go_simp;refine hK.out _ _ (by first | exact Z | exact⟨cb,zb⟩ | exact b6.out _ rfl) (λZ=>?_);clear hK K;try go_frame
        refine⟨by kernel_rfl,?_⟩;simp only[qbh,qbH];go_wp2;go_roundw
        case rel=>exact⟨i+1,by simp,by omega,by rw[Qm,<- d6.out.2,<- l7.out,HV.out];rw[d6.out.1] at SW;exact SW.out⟩
        case measure=>simp[qb2];omega
       exact qm.nil
      exact qm.nil
     ·rw[decide_eq_false a8,a9] at b8
      have c8:(Instr.lookup 120 (.map (some M)) (.agg #[.int .i64 m0,.int .i64 m1,.int .i64 m2,.int .i64 m3,.int .i64 m4]) true).run Tryp.prog u=.ok (.tuple #[.int .i64 vl,.bool false]) u:=b8;clear b8;obtain⟨ob,p7,d8,k0⟩:=d7.out.m.add q d9 a8 (st+1);rw[a9] at d8;have g6:(qbE 120 (.map (some M)) (.agg #[.int .i64 m0,.int .i64 m1,.int .i64 m2,.int .i64 m3,.int .i64 m4]) (.int .i64 (st+1))).run Tryp.prog u=.ok () (u.putObj M ob):=d8;have HV:=q1D (q6y (kn:=(K1,b9)) a8);have n2:=q1D k0;clear d8 a9 a8 k0;go_upto_region 29 with(fail)
      clear b0 b1 b2 b3 b4 c8 g6;refine xB (λu=>McI w1 u M Sb (K1++[q],b9) (.slice oa om oc) q) (d7.out.put hM rfl (n2.out _ (World.putObj_heap_same (q8m hM d7.out.g.size)))) (λu5 b7=>?_);have l8:=q1D b7;have a9:=l6.out;have a6:=b7.s;rw[a9] at a6;have b0:=qa a6 (o:=0) (v:=.int .i64 m0) rfl;have b1:=qa a6 (o:=1) (v:=.int .i64 m1) rfl;have b2:=qa a6 (o:=2) (v:=.int .i64 m2) rfl;have b3:=qa a6 (o:=3) (v:=.int .i64 m3) rfl;have b4:=qa a6 (o:=4) (v:=.int .i64 m4) rfl;have p5:=b7.g.size;clear b7 a6 a9;go_upto_region 30 with(first
       | (at_builtin;go_must (refine wpList_append_lies _ (by rfl) _ _ _ (by rfl) w1.heap.size 118 i0 _ 5 40 Tryp.und121 m7 m6 m5 l9 rfl (by omega) (.slice oa om oc) b9.length (kA b9) (by rfl) (by exact l8.out.o.alloc _) ⟨u5.heap.size,0,none⟩ 1 1 [.int .i64 m0,.int .i64 m1,.int .i64 m2,.int .i64 m3,.int .i64 m4] (by rfl) (by rfl) (qbg (cs:=#[.int .i64 m0,.int .i64 m1,.int .i64 m2,.int .i64 m3,.int .i64 m4]) (t:=118) (fr:=(0,0)) (q7j u5 _)) (by simp[qbD]) (by omega) (by unfold maxLen;omega) (by omega) (by simp;omega) (u5.heap.size+1) (by simp) ?_);intro gi cap u6 c3 d5 h8 hgl;have n4:=q1D d5;have m8:=q1D c3;have n6:=q1D h8;clear d5 c3 h8))
      clear b0 b1 b2 b3 b4;have n3:=q1D (McI.push (m:=q) l8.out hM n4.out (by rw[l6.out];exact m8.out) n6.out);clear ca cb za zb b6 SW AB;have a7:=n3.out;obtain⟨ha,hb⟩:=HQ.out;have ca:=(zA a7.s ha hb).fst;have cb:=(zA a7.s ha hb).snd;have za:=qn a7.s (o:=i);have zb:=qn a7.s (o:=i+1);have b6:=q1D (zA a7.s ha hb).mid;have SW:=q1D (a7.swap hM e5 ha hb);have AB:=q1D (q8D ha hb);clear a7 ha hb;go_wp2_with (fail);refine qR 12 (λw'=>w'.cell? ⟨Sb,i+1,none⟩=some (.int .i64 a)/\w'.frozen? ⟨Sb,i+1,none⟩=false) (by kernel_rfl) (by kernel_rfl) ⟨cb,zb⟩ (λZ=>?_);simp only[q8l,q9k,q9F,qbA,q9m,qao,qat,qbd,qae,q9y];refine tk 0 ?_;try go_frame
      refine tk 1 ?_;try go_frame
      refine tk 2 ?_;try go_frame
      refine tk 3 ?_;try go_frame
      refine tk 4 ?_;try go_frame
      refine tk 5 ?_;try go_frame
      refine tk 6 ?_;try go_frame
      refine tk 7 ?_;try go_frame
      refine tk 8 ?_;try go_frame
      refine rdy [9] ?_;refine cns 9 (λK hK=>?_) ?_
      ·skip
       go_simp;refine hK.out _ _ (by first | exact Z | exact⟨cb,zb⟩ | exact b6.out _ rfl) (λZ=>?_);clear hK K;try go_frame
       refine tk 10 ?_;try go_frame
       refine rdy [11] ?_;refine cns 11 (λK hK=>?_) ?_
       ·skip
        go_simp;refine hK.out _ _ (by first | exact Z | exact⟨cb,zb⟩ | exact b6.out _ rfl) (λZ=>?_);clear hK K;try go_frame
        refine⟨by kernel_rfl,?_⟩;simp only[qbh,qbH];go_wp2;go_roundw
        case rel=>exact⟨i+1,by simp,by omega,by rw[Qm,<- d6.out.2,<- l7.out,HV.out];rw[d6.out.1] at SW;exact SW.out⟩
        case measure=>simp[qb2];omega
       exact qm.nil
      exact qm.nil
    exact qm.nil
   exact qm.nil
  ·obtain rfl:i=n1:=by omega
   clear hI;go_wp2;refine HR.out _ _ wr rfl rfl ?_ HI.out.g HI.out.m HI.out.o;rw[<- HE.out.1,<- HE.out.2.1,<- HE.out.2.2.1,<- HE.out.2.2.2]
   repeat(refine List.forall_mem_cons.2 ⟨rfl,?_⟩)
   exact List.forall_mem_nil _
def yA(n1:Nat)(K:List (List Int))(L:List (List Int)):List (List Int) × List (List Int):=L.foldl (vH n1) (K,[])
theorem q7x(n1:Nat)(K L:List (List Int))(s:List Int):yA n1 K (L++[s])=vH n1 (yA n1 K L) s:=by simp[yA]
theorem expA_eq(n:Nat)(K L:List (List Int)):expA n K L=yA (n - 1) K L:=rfl
theorem qac(n1:Nat)(K:List (List Int))(L:List (List Int)):(yA n1 K L).2.length<=L.length*n1:=by
 have key:∀(L:List (List Int)) (kn:List (List Int) × List (List Int)),(L.foldl (vH n1) kn).2.length<=kn.2.length+L.length*n1:=by
  intro L;induction L with
  | nil=>intro kn;simp
  | cons s L ih =>
   intro kn;have h1:=ih (vH n1 kn s);have h2:=q3s n1 kn s;simp only[List.foldl_cons,q8l,Nat.add_mul];omega
 have:=key L (K,[]);rw[q9k,q9m] at this;exact this
theorem ZS{n1:Nat}{K L:List (List Int)}(h:∀s∈L,s.length=5):∀s∈(yA n1 K L).2,s.length=5:=by
 have key:∀(L:List (List Int)) (kn:List (List Int) × List (List Int)),(∀s∈L,s.length=5)->(∀s∈kn.2,s.length=5)->∀s∈(L.foldl (vH n1) kn).2,s.length=5:=by
  intro L;induction L with
  | nil=>intro kn _ h;simpa using h
  | cons s L ih=>intro kn h1 h2;exact ih _ (λt ht=>h1 t (by simp[ht])) (q7y h2 (h1 s (by simp)))
 exact key L (K,[]) h (by simp)
def bCh:List Nat:=[0,1,2,3,4,5,6,7,8,9,10,12,13,14,15,16,17,18,23,24,25,26,27,28,29,30,31,32,33,34,35,36,37,38,39,40,41,42,43,44,45,46,47,48,49,50,51,52,53,54,55,56,57,58,59,60,61,62,116,117,118,119,120,121,122]
theorem sub_bc:∀j∈(63::bCh),j∈cCh:=by decide
theorem mendB(z:Array q58)(hz:z.size=123)(w1:q3g)(R:Act->q3g->Prop)(n n1 M:Nat)(st:Int)(L K:List (List Int))(pb nb:Option qb9)(pc nc:Nat)
  (h1:z[1]?=some (.slice pb n pc)) (h9:z[9]?=some (.map (some M))) (d6:z[11]?=some (.slice none 0 0)) (d5:z[12]?=some (.int .i64 st)) (c9:z[61]?=some (.slice nb L.length nc)) (c8:z[62]?=some (.int .i64 L.length)) (h63:z[63]?=some (.int .i64 0)) (hn:n<=5) (g5:n1=n - 1)
  (hM:M<w1.heap.size) (hL:jh w1 (.slice nb L.length nc) L) (h5:∀s∈L,s.length=5) (hl:L.length<=1000) (hK:zL w1 M K) (hst:0<=st/\st<=100000)
  (hR:∀(z':Array q58) (Z:q58) w',z'.size=123->z'[11]?=some Z->Kp bCh z z'->w1.grownBy w' (some M)->zL w' M (yA n1 K L).1->w'.ownsRow w1.heap.size 118 5 Z (yA n1 K L).2.length (kA (yA n1 K L).2)->R ⟨z',[]⟩ w') :
  mLB.wp Tryp.prog (qe5 2 (yg R)) ⟨z,[]⟩ w1:=by
 obtain⟨t,ht,rfl⟩:=QV z hz;have e1:=ht 1 _ h1;have e9:=ht 9 _ h9;have d8:=ht 11 _ d6;have b0:=ht 12 _ d5;have a9:=ht 61 _ c9;have a8:=ht 62 _ c8;have d7:=ht 63 _ h63;clear ht h1 h9 d6 d5 c9 c8 h63;rw[e1,e9,d8,b0,a9,a8,d7];have HE:=q1D (q8D e1 (q8D e9 (q8D b0 (q8D a9 a8))));clear e1 e9 d8 b0 a9 a8 d7 hz;have HR:=q1D hR;have HL:=q1D hL;have HK:=q1D hK;have H5:=q1D h5;clear hR hL hK h5;simp only[mLB,mX19,mX10,mX8,Tryz.f54,q88,sqA,sqB,inn];go_wp2;go_loopw [11,63] (λnv iv wr=>∃k:Nat,iv=.int .i64 k/\k<=L.length/\w1.grownBy wr (some M)/\zL wr M (yA n1 K (L.take k)).1/\wr.ownsRow w1.heap.size 118 5 nv (yA n1 K (L.take k)).2.length (kA (yA n1 K (L.take k)).2)) (λ_ iv _=>(L.length - qb2 iv).toNat)
 case atStart=>exact⟨0,rfl,by omega,q8j _ _,HK.out,qcb _ _ _ _⟩
 case round =>
  obtain⟨k,rfl,hk,hG,a7,hO⟩:=hrel;have HG:=q1D hG;have d9:=q1D a7;have HO:=q1D hO;by_cases hlt:k<L.length
  ·obtain⟨s,hs⟩:∃s,L[k]?=some s:=⟨_,q7C hlt⟩
   have e4:=H5.out s (q8z hs);have b8:=HL.out.keptM hG (λcs fr=>HK.out.not _ _ _);obtain⟨B,o,rfl,e5,c0,c1,c2,c3,c4⟩:=b8.at hs;have e6:(k:Int)<(L.length:Int):=by omega
   have e8:IntKind.i64.wrap ((k:Int)+1)=(k:Int)+1:=qa7 _ (by omega);have e7:IntKind.i64.wrap ((n:Int) - 1)=(n:Int) - 1:=qa7 _ (by omega);have b7:=qac n1 K (L.take k);rw[qcD,Nat.min_eq_left hk] at b7;have HS:=q1D hs;obtain⟨a0,a1,a2,a3,a4,rfl⟩:=len5 e4;clear hG a7 hO b8 hs;go_upto_region 22 with(fail)
   obtain⟨Sb,a6⟩:∃Sb,Sb=wr.heap.size:=⟨_,rfl⟩
   rw[<- a6];refine xB (λu=>McI w1 u M Sb (yA n1 K (L.take k)) u11 [a0,a1,a2,a3,a4]) ⟨HG.out.andThen (q34 _ _ none) (by simp),d9.out.kept ((q34 wr _ none).block M (by have:=HG.out.size;omega) (by simp)),HO.out.alloc _,λb e=>by have:=(HO.out.lt b e).2;omega,by rw[a6];exact q7j _ _⟩ (λu hI=>?_);have HI:=q1D hI;have b9:w1.heap.size<=Sb:=by have:=HG.out.size;omega
   clear hI a6 c0 c1 c2 c3 c4 e5;go_wp2;all_goals
    refine Code.wp_mono (jY (R:=λa u=>∃x:Nat->q58,a=⟨#[t 0,.slice pb n pc,t 2,t 3,t 4,t 5,t 6,t 7,t 8,.map (some M),t 10,x 11,.int .i64 st,t 13,t 14,t 15,t 16,t 17,t 18,x 19,x 20,x 21,x 22,t 23,t 24,t 25,t 26,t 27,t 28,t 29,t 30,t 31,t 32,t 33,t 34,t 35,t 36,t 37,t 38,t 39,t 40,t 41,t 42,t 43,t 44,t 45,t 46,t 47,t 48,t 49,t 50,t 51,t 52,t 53,t 54,t 55,t 56,t 57,t 58,t 59,t 60,.slice (some ⟨B,o,none⟩) L.length nc,.int .i64 L.length,.int .i64 k,x 64,x 65,x 66,x 67,x 68,x 69,x 70,x 71,x 72,x 73,x 74,x 75,x 76,x 77,x 78,x 79,x 80,x 81,x 82,x 83,x 84,x 85,x 86,x 87,x 88,x 89,x 90,x 91,x 92,x 93,x 94,x 95,x 96,x 97,x 98,x 99,x 100,x 101,x 102,x 103,x 104,x 105,x 106,x 107,x 108,x 109,x 110,x 111,x 112,x 113,x 114,x 115,t 116,t 117,t 118,t 119,t 120,t 121,t 122],[]⟩/\w1.grownBy u (some M)/\zL u M (yA n1 K (L.take (k+1))).1/\u.ownsRow w1.heap.size 118 5 (x 11) (yA n1 K (L.take (k+1))).2.length (kA (yA n1 K (L.take (k+1))).2)) ?_) ?_;rotate_left
    ·refine xg (c':=mLC) (by simp only[mLC,mB3,mLB,mX19,mX10,mX8,Tryz.f54,q88,sqA,sqB,inn]) ?_
     refine mendC _ rfl w1 u _ n1 M Sb st [a0,a1,a2,a3,a4] (yA n1 K (L.take k)).1 (yA n1 K (L.take k)).2 u11 rfl rfl rfl rfl (congrArg some (congrArg (q9q .i64) (by omega))) rfl (by omega) rfl hM b9 HI.out.s HI.out.g HI.out.m HI.out.o HI.out.n (by have:k*n1<=1000*4:=Nat.mul_le_mul (by omega) (by omega);omega) hst (ZS λs hs=>H5.out s (List.mem_of_mem_take hs)) ?_;intro z' Z w' b1 b2 b3 b4 b5 b6;rw[show(yA n1 K (L.take k)).1=(yA n1 K (L.take k)).1 from rfl] at b5;have hT:vH n1 ((yA n1 K (L.take k)).1,(yA n1 K (L.take k)).2) [a0,a1,a2,a3,a4]=yA n1 K (L.take (k+1)):=by rw[qbc,HS.out];exact(q7x _ _ _ _).symm
     rw[hT] at b5 b6;refine⟨λj=>z'[j]?.getD q5s,congrArg (λz=>(⟨z,[]⟩:Act)) ((q9H (63::bCh) _ z' b1 (λj hj=>b3 j (sub_bc j hj))).trans ?_),b4,b5,?_⟩
     ·rfl
     ·show w'.ownsRow _ _ _ (z'[11]?.getD q5s) _ _
      rw[b2];exact b6
    ·rintro a u2 ⟨x,rfl,g1,g2,g3⟩
     have G1:=q1D g1;have G2:=q1D g2;have G3:=q1D g3;clear g1 g2 g3;go_wp2;go_roundw
     case rel=>exact⟨k+1,by simp,by omega,G1.out,G2.out,G3.out⟩
     case measure=>simp[qb2];omega
  ·obtain rfl:k=L.length:=by omega
   clear hG a7 hO;go_wp2;have h1:=d9.out;have h2:=HO.out;rw[qcc] at h1 h2;refine HR.out _ _ wr rfl rfl ?_ HG.out h1 h2;rw[<- HE.out.1,<- HE.out.2.1,<- HE.out.2.2.1,<- HE.out.2.2.2.1,<- HE.out.2.2.2.2]
   repeat(refine List.forall_mem_cons.2 ⟨rfl,?_⟩)
   exact List.forall_mem_nil _
def stepB(ps:List Par)(b:Bool × List Int)(s:List Int):Bool × List Int:=if qw ps (pre Par.mx ps ps.length) (z6 s)=true then(true,if b.1=true/\q0j (z6 s) b.2=false then b.2 else z6 s) else b
theorem q5p(ps:List Par)(L:List (List Int))(s:List Int):jA ps (L++[s])=stepB ps (jA ps L) s:=by rw[jA,List.foldl_append];rfl
def aKl:List Nat:=[0,1,2,3,4,5,6,7,8,9,10,11,12,13,14,15,18,19,20,21,22,23,24,25,26,27,28,29,30,31,32,33,34,35,36,37,38,39,40,41,42,56,57,58,59,60,61,62,63,64,65,66,67,68,69,70,71,72,73,74,75,76,77,78,79,80,81,82,83,84,85,86,87,88,89,90,91,92,93,94,95,96,97,98,99,100,101,102,103,104,105,106,107,108,109,110,111,112,113,114,115,116,117,118,119,120,121,122]
theorem mendA(z:Array q58)(hz:z.size=123)(w1:q3g)(R:Act->q3g->Prop)(Yb Lb:Nat)(ps:List Par)(lim:Int)(pv:q58)(L:List (List Int))(nb:Option qb9)(nc:Nat)
  (h7:z[7]?=some (.pointer (some ⟨Yb,0,none⟩))) (k0:z[13]?=some (.pointer (some ⟨Lb,0,none⟩))) (h9:z[14]?=some (.func (.func 103) #[.pointer (some ⟨Lb,0,none⟩)] #[])) (h8:z[41]?=some (.slice nb L.length nc)) (g9:z[42]?=some (.int .i64 L.length)) (g8:z[43]?=some (.int .i64 0))
  (hY:w1.heap[Yb]?=some (.cells #[pv,.int .i64 lim] 91 (0,0))) (hP:qr 0 Lb w1 pv ps) (g7:w1.heap[Lb]?=some (.cells #[.func (.func 99) #[] #[],.slice none 0 0,.bool false] 108 (0,0))) (hok:YOk ps lim) (hL:jh w1 (.slice nb L.length nc) L) (c9:L.all (okS ps lim)=true) (hl:L.length<=1000)
  (hR:∀(z':Array q58) (bv:q58) w',z'.size=123->Kp aKl z z'->w1.grownBy w' (some Lb)->w'.heap[Lb]?=some (.cells #[.func (.func 99) #[] #[],bv,.bool (jA ps L).1] 108 (0,0))->qe 0 w'.heap.size w' bv (jA ps L).2->R ⟨z',[]⟩ w') :
  mLA.wp Tryp.prog (qe5 0 (yg R)) ⟨z,[]⟩ w1:=by
 obtain⟨t,ht,rfl⟩:=QV z hz;have e7:=ht 7 _ h7;have d9:=ht 13 _ k0;have d8:=ht 14 _ h9;have d7:=ht 41 _ h8;have d6:=ht 42 _ g9;have k5:=ht 43 _ g8;clear ht h7 k0 h9 h8 g9 g8;obtain⟨yb,yc,rfl,l8,-⟩:=hP.cell;rw[e7,d9,d8,d7,d6,k5];have HE:=q1D (q8D e7 (q8D d9 (q8D d8 (q8D d7 d6))));clear e7 d9 d8 d7 d6 k5 hz;have HR:=q1D hR;have HY:=q1D hY;have HP:=q1D hP;have b8:=q1D g7;have k8:=q1D hok;have HL:=q1D hL;have HA:=q1D (qau.1 c9);clear hR hY hP g7 hok hL c9;simp only[mLA,mX10,mX8,Tryz.f54,q88,sqA,sqB,inn];go_wp2;go_loopw [43] (λiv wr=>∃(k:Nat) (bv:q58),iv=.int .i64 k/\k<=L.length/\w1.grownBy wr (some Lb)/\wr.heap[Lb]?=some (.cells #[.func (.func 99) #[] #[],bv,.bool (jA ps (L.take k)).1] 108 (0,0))/\qe 0 wr.heap.size wr bv (jA ps (L.take k)).2) (λiv _=>(L.length - qb2 iv).toNat)
 case atStart=>exact⟨0,_,rfl,by omega,q8j _ _,b8.out,qe.nil _ _ _⟩
 case round =>
  obtain⟨k,bv,rfl,hk,hG,hB,hI⟩:=hrel;have HG:=q1D hG;have HB:=q1D hB;have HI:=q1D hI;by_cases hlt:k<L.length
  ·obtain⟨s,hs⟩:∃s,L[k]?=some s:=⟨_,q7C hlt⟩
   have b9:=HA.out s (q8z hs);obtain⟨l4,hne,e6⟩:=xR b9;have g6:=HL.out.keptM hG (λcs fr e=>by rw[b8.out] at e;injection e with e;injection e with _ e _;exact absurd e (by decide));obtain⟨B,o,rfl,l5,c0,c1,c2,c3,c4⟩:=g6.at hs;have l7:(k:Int)<(L.length:Int):=by omega
   have l9:IntKind.i64.wrap ((k:Int)+1)=(k:Int)+1:=qa7 _ (by omega);have HS:=q1D hs;have e4:=q1D e6;have k9:=q1D hne;obtain⟨a0,a1,a2,a3,a4,rfl⟩:=len5 l4;clear hG hB hI g6 hs b9 e6 hne;go_upto_region 13 with(fail)
   obtain⟨X,hX⟩:∃X,X=wr.heap.size:=⟨_,rfl⟩
   rw[<- hX];refine xB (λu=>(w1.grownBy u (some Lb)/\u.heap[Lb]?=some (.cells #[.func (.func 99) #[] #[],bv,.bool (jA ps (L.take k)).1] 108 (0,0))/\qe 0 u.heap.size u bv (jA ps (L.take k)).2)/\u.heap[X]?=some (.cells #[.int .i64 a0,.int .i64 a1,.int .i64 a2,.int .i64 a3,.int .i64 a4] 118 (0,0))) ⟨⟨HG.out.andThen (q34 _ _ none) (by simp),qp HB.out,(HI.out.alloc _).mono (q5m _) (by rw[q8f];omega)⟩,by rw[hX];exact q7j _ _⟩ (λu hF=>?_);obtain⟨⟨f1,f2,f3⟩,f4⟩:=hF;have F1:=q1D f1;have F2:=q1D f2;have F3:=q1D f3;have b0:=qa f4 (o:=0) (v:=.int .i64 a0) rfl;have b1:=qa f4 (o:=1) (v:=.int .i64 a1) rfl;have b2:=qa f4 (o:=2) (v:=.int .i64 a2) rfl;have b3:=qa f4 (o:=3) (v:=.int .i64 a3) rfl;have b4:=qa f4 (o:=4) (v:=.int .i64 a4) rfl;have c8:=q9D [a0,a1,a2,a3,a4] rfl k9.out;have d5:=q1D (show ∀w,qaD Tryp.prog 113 #[.agg #[.int .i64 a0,.int .i64 a1,.int .i64 a2,.int .i64 a3,.int .i64 a4]] w λe w'=>∃v,e=.returned v/\w.grownBy w' none/\qe w.heap.size w'.heap.size w' v (z6 [a0,a1,a2,a3,a4]) from c8);have Z:=q1D (show jA ps (L.take k++[[a0,a1,a2,a3,a4]])=if qw ps (pre Par.mx ps ps.length) (z6 [a0,a1,a2,a3,a4])=true then(true,if(jA ps (L.take k)).1=true/\q0j (z6 [a0,a1,a2,a3,a4]) (jA ps (L.take k)).2=false then(jA ps (L.take k)).2 else z6 [a0,a1,a2,a3,a4]) else jA ps (L.take k) from q5p ps (L.take k) [a0,a1,a2,a3,a4]);have k6:=q1D (show L.take k++[[a0,a1,a2,a3,a4]]=L.take (k+1) by rw[qbc,HS.out];rfl);generalize z6 [a0,a1,a2,a3,a4]=l at e4 k9 d5 Z;clear f1 f2 f3 f4 c0 c1 c2 c3 c4 l5 c8 hX;go_upto_region 14 with(first
    | (go_at_call 113;refine(d5.out _).mono ?_;rintro e w2 ⟨v,rfl,hg2,e8⟩;have a7:=q1D hg2;have b6:=q1D (e8.mono (qa8 _) (q5m _));clear hg2 e8))
   clear b0 b1 b2 b3 b4;obtain⟨vb,vc,rfl,-,-⟩:=b6.out.cell;have gY:=F1.out.andThen a7.out (by simp);have y2:=blk gY (λe=>by cases e;have h:=HY.out;rw[b8.out] at h;injection h with h;injection h with _ h _;exact absurd h (by decide)) HY.out;have y0:=qa y2 (o:=0) rfl;have y1:=qa y2 (o:=1) rfl;have k7:=q1D ((HP.out.kept gY (λR e=>by cases e;exact .inr (q5m _))).mono (q5m _) (Nat.le_of_lt (q8m (qy b8.out) gY.size)));have GY:=q1D gY;clear gY y2;cases hst:qw ps (pre Par.mx ps ps.length) l with
   | false =>
    have a9:=q1D hst;clear hst;go_wp2_with (first
     | (go_at_call 114;refine(q1e 0 _ _ _ ps lim l w2 ⟨_,rfl,k7.out⟩ b6.out (q5m _) k8.out e4.out).mono ?_;rintro e w3 ⟨rfl,a8⟩;rw[a9.out];have a6:=q1D a8;clear a8))
    go_roundw
    case rel =>
     rw[k6.out,if_neg (by rw[a9.out];simp)] at Z;have hg:=a7.out.trans a6.out;refine⟨k+1,bv,by simp,by omega,F1.out.andThen hg (by simp),?_,?_⟩
     ·rw[Z.out];exact blk hg (by simp) F2.out
     ·rw[Z.out];exact(F3.out.kept hg (by simp)).mono (q5m _) hg.size
    case measure=>simp[qb2];omega
   | true =>
    have a9:=q1D hst;clear hst;go_wp2_with (first
     | (go_at_call 114;refine(q1e 0 _ _ _ ps lim l w2 ⟨_,rfl,k7.out⟩ b6.out (q5m _) k8.out e4.out).mono ?_;rintro e w3 ⟨rfl,a8⟩;rw[a9.out];have a6:=q1D a8;clear a8)
     | (go_at_call 103;refine(q6B Lb (jA ps (L.take k)).1 bv _ (jA ps (L.take k)).2 l w3 (blk (a7.out.trans a6.out) (by simp) F2.out) ((F3.out.kept (a7.out.trans a6.out) (by simp)).mono (q5m _) (a7.out.trans a6.out).size) ((b6.out.kept a6.out (by simp)).mono (q5m _) a6.out.size)).mono ?_;rintro e w4 ⟨rfl,e9,e5⟩;have b7:=q1D e9;have l6:=q1D e5;clear e9 e5))
    go_roundw
    case rel =>
     rw[k6.out,if_pos a9.out] at Z;have hg:=a7.out.trans a6.out;have g5:=blk hg (by simp) F2.out;refine⟨k+1,_,by simp,by omega,(F1.out.andThen hg (by simp)).trans b7.out,by rw[Z.out];exact l6.out,?_⟩;rw[Z.out];dsimp only;split
     ·exact(((F3.out.kept hg (by simp)).mono (q5m _) hg.size).keptT b7.out g5 (by decide)).mono (q5m _) b7.out.size
     ·exact(((b6.out.kept a6.out (by simp)).mono (q5m _) a6.out.size).keptT b7.out g5 (by decide)).mono (q5m _) b7.out.size
    case measure=>simp[qb2];omega
  ·obtain rfl:k=L.length:=by omega
   clear hG hB hI;go_wp2;have h1:=HB.out;have h2:=HI.out;rw[qcc] at h1 h2;refine HR.out _ _ wr rfl ?_ HG.out h1 h2;rw[<- HE.out.1,<- HE.out.2.2.1,<- HE.out.2.1,<- HE.out.2.2.2.1,<- HE.out.2.2.2.2]
   repeat(refine List.forall_mem_cons.2 ⟨rfl,?_⟩)
   exact List.forall_mem_nil _
theorem gsome{w w':q3g}(h:w.grownBy w' none)(r:Option Nat):w.grownBy w' r:=⟨h.os,h.tape,h.output,h.size,λk hk _=>h.block k hk (by simp)⟩
def MJ(ps:List Par)(lim:Int)(w0:q3g)(pb:Option qb9)(n pc f0:Nat)(pv:q58)(o:Option (Int × List Int))(a:Act)(w:q3g):Prop :=
 ∃(z:Array q58) (Yb M st f:Nat) (K now:List (List Int)) (nb:Option qb9) (nc:Nat),a=⟨z,[]⟩/\z.size=123/\z[1]?=some (.slice pb n pc)/\z[7]?=some (.pointer (some ⟨Yb,0,none⟩))/\z[9]?=some (.map (some M))/\z[10]?=some (.slice nb now.length nc)/\z[11]?=some (.slice none 0 0)/\z[12]?=some (.int .i64 st) /\
  st+f=f0/\q03 ps lim n f K now st=some o/\zL w M K/\w0.heap.size<=M/\jh w (.slice nb now.length nc) now/\w0.grownBy w none/\w.heap[Yb]?=some (.cells #[pv,.int .i64 lim] 91 (0,0))/\qr 0 w0.heap.size w pv ps
def MendZ(o:Option (Int × List Int))(z:Array q58)(w:q3g):Prop :=
 match o with
 | some (st,r)=>∃v,z[4]?=some (.int .i64 st)/\z[5]?=some v/\z[6]?=some (.int .i64 0)/\qe 0 w.heap.size w v r
 | none=>z[4]?=some (.int .i64 0)/\z[5]?=some (.slice none 0 0)/\z[6]?=some (.int .i64 11)
theorem Kf{w:q3g}{M:Nat}{es:Array qdm}{cl:Nat}(ty:q8u)(h:w.heap[M]?=some (.map es cl)):(Builtin.clear_ #[120] ty #[.map (some M)]).run Tryp.prog w=.ok (.tuple #[]) (w.putObj M (.map #[] cl)):=by
 simp[Builtin.clear_,qbB,run_underlying Tryp.und120,getObj,setObj,qbk,h,Result.andThen,World.putObj]
def st12(a:Act):Int:=qb2 (a.tmps.getD 12 q5s)
theorem mendP(ps:List Par)(lim:Int)(w0 w:q3g)(pb:Option qb9)(n pc f0:Nat)(pv:q58)(o:Option (Int × List Int))(a:Act)(Q:Exit->Act->q3g->Prop)(hJ:MJ ps lim w0 pb n pc f0 pv o a w)(hok:YOk ps lim)(hn:n<=5)(hf:f0<=1000)
  (hQ:∀(z':Array q58) w',z'.size=123->MendZ o z' w'->w0.grownBy w' none->Q .ret ⟨z',[]⟩ w') :
  mX8.wp Tryp.prog (Exit.jump 0 (λa' w'=>MJ ps lim w0 pb n pc f0 pv o a' w'/\(f0 - st12 a').toNat<(f0 - st12 a).toNat) Q) a w:=by
 obtain⟨z,Yb,M,st,f,K,now,nb,nc,rfl,hz,h1,h7,h9,k5,k0,h8,hst,hm,hM,a7,hN,hG,hY,hP⟩:=hJ;obtain⟨t,ht,rfl⟩:=QV z hz;have e1:=ht 1 _ h1;have e7:=ht 7 _ h7;have e9:=ht 9 _ h9;have l4:=ht 10 _ k5;have k8:=ht 11 _ k0;have k6:=ht 12 _ h8;clear ht h1 h7 h9 k5 k0 h8 hz;obtain⟨yb,yc,rfl,n6,-⟩:=hP.cell;rw[e1,e7,e9,l4,k8,k6];clear e1 e7 e9 l4 k8 k6;cases f with
 | zero=>cases hm
 | succ f =>
  unfold q03 at hm;split at hm
  ·rename_i a6
   obtain⟨a6,hl⟩:=a6;have a8:=q1D a6;have HQ:=q1D hQ;have d6:=q1D hm;have HM:=q1D hM;have HN:=q1D hN;have HG:=q1D hG;have HY:=q1D hY;have HP:=q1D hP;have l9:M<w.heap.size:=by obtain⟨es,cl,e,-⟩:=hM;exact qy e
   clear hQ hm hM hN hG hY hP a6;simp only[mX8,Tryz.f54,q88,sqA,sqB,inn];have n8:∀(a:qb9) (fn:Fn) (x y:Array q58) (m:Mode) (w:q3g),(store a (.func fn x y) m).run Tryp.prog w=stored Tryp.prog w a (.func fn x y) m:=λa fn x y m w=>run_store _ w a _ m rfl;go_upto_region 10 with(fail)
   obtain⟨Lb,d5⟩:∃Lb,Lb=w.heap.size:=⟨_,rfl⟩
   rw[<- d5];have d7:=q34 w (.cells #[.func (.func 99) #[] #[],.slice none 0 0,.bool false] 108) none;have p4:=q1D d7;refine xB (λu=>(w.grownBy u none/\u.heap[Lb]?=some (.cells #[.func (.func 99) #[] #[],.slice none 0 0,.bool false] 108 (0,0)))) ⟨d7,by rw[d5];exact q7j _ _⟩ (λu hF=>?_);obtain⟨g1,b1⟩:=hF;have G1:=q1D g1;have B1:=q1D b1;have m6:=q1D d5;have p3:M<Lb:=by omega
   have e6:w0.heap.size<=Lb:=by have:=HG.out.size;omega
   clear g1 b1 d7 d5;go_upto_region 17 with(fail)
   refine Code.wp_mono (jY (R:=λa u2=>∃(z':Array q58) (bv:q58),a=⟨z',[]⟩/\z'.size=123/\z'[1]?=some (.slice pb n pc)/\z'[7]?=some (.pointer (some ⟨Yb,0,none⟩))/\z'[9]?=some (.map (some M))/\z'[10]?=some (.slice nb now.length nc)/\z'[11]?=some (.slice none 0 0)/\z'[12]?=some (.int .i64 st)/\z'[13]?=some (.pointer (some ⟨Lb,0,none⟩)) /\
    u.grownBy u2 (some Lb)/\u2.heap[Lb]?=some (.cells #[.func (.func 99) #[] #[],bv,.bool (jA ps now).1] 108 (0,0))/\qe 0 u2.heap.size u2 bv (jA ps now).2) ?_) ?_
   rotate_left
   ·refine xg (c':=mLA) (by simp only[mLA,mX10,mX8,Tryz.f54,q88,sqA,sqB,inn]) ?_
    refine mendA _ rfl u _ Yb Lb ps lim (.slice yb ps.length yc) now nb nc rfl rfl rfl rfl rfl rfl (blk G1.out (by simp) HY.out) ((HP.out.kept G1.out (by simp)).mono (q5m _) e6) B1.out hok (HN.out.keptM (M:=M) (gsome G1.out _) (λcs fr=>HM.out.not _ _ _)) a8.out hl ?_;intro z' bv w' b1 b2 b3 b4 b5;exact⟨z',bv,rfl,b1,b2 1 (by decide),b2 7 (by decide),b2 9 (by decide),b2 10 (by decide),b2 11 (by decide),b2 12 (by decide),b2 13 (by decide),b3,b4,b5⟩
   ·rintro a u2 ⟨z',bv,rfl,c3,k1,k7,k9,d9,b7,b0,d8,f1,f2,f3⟩
    obtain⟨t2,Z,rfl⟩:=QV z' c3;have j1:=Z 1 _ k1;have j7:=Z 7 _ k7;have j9:=Z 9 _ k9;have e5:=Z 10 _ d9;have b9:=Z 11 _ b7;have b8:=Z 12 _ b0;have e4:=Z 13 _ d8;clear Z k1 k7 k9 d9 b7 b0 d8;rw[j1,j7,j9,e5,b9,b8,e4];clear j1 j7 j9 e5 b9 b8 e4 c3;obtain⟨bb,bc,rfl,-,-⟩:=f3.cell;have g5:w.grownBy u2 none:=xx G1.out f1 (by rw[m6.out];exact q5m _);have c1:=qa f2 (o:=1) rfl;have c2:=qa f2 (o:=2) rfl;have F3:=q1D f3;have c9:=q1D g5;have l8:M<u2.heap.size:=by have:=g5.size;omega
    have n9:=qy f2;clear f1 f2 f3;cases hb:(jA ps now).1 with
    | true =>
     rw[if_pos hb] at d6;rw[hb] at c2;clear hb;go_wp2_with (fail);go_quiet (fail);go_wp2;simp only[Exit.jump];have hm:=d6.out;cases hm;exact HQ.out _ _ rfl ⟨_,rfl,rfl,rfl,(F3.out.kept (qi _ _ none) (by simp)).mono (q5m _) (q5m _)⟩ ((HG.out.trans c9.out).trans (qi _ _ none))
    | false =>
     rw[if_neg (by rw[hb];simp)] at d6;rw[hb] at c2;clear hb;have g9:zL u2 M K:=HM.out.kept (c9.out.block M l9 (by simp));have g8:jh u2 (.slice nb now.length nc) now:=HN.out.keptM (M:=M) (gsome c9.out _) (λcs fr=>HM.out.not _ _ _);have m4:=q1D g9;have l7:=q1D g8;clear g9 g8;go_upto_region 33 with(fail)
     refine Code.wp_mono (jY (R:=λa u3=>∃(z':Array q58) (nv:q58),a=⟨z',[]⟩/\z'.size=123/\z'[1]?=some (.slice pb n pc)/\z'[7]?=some (.pointer (some ⟨Yb,0,none⟩))/\z'[9]?=some (.map (some M))/\z'[11]?=some nv/\z'[12]?=some (.int .i64 st) /\
      u2.grownBy u3 (some M)/\zL u3 M (yA (n - 1) K now).1/\u3.ownsRow u2.heap.size 118 5 nv (yA (n - 1) K now).2.length (kA (yA (n - 1) K now).2)) ?_) ?_
     rotate_left
     ·refine xg (c':=mLB) (by simp only[mLB,mX19,mX10,mX8,Tryz.f54,q88,sqA,sqB,inn]) ?_
      refine mendB _ rfl u2 _ n (n - 1) M st now K pb nb pc nc rfl rfl rfl rfl rfl rfl rfl hn rfl l8 l7.out (λs hs=>(xR (qau.1 a8.out s hs)).1) hl m4.out (by omega) ?_;intro z' nv w' b1 b2 b3 b4 b5 b6;exact⟨z',nv,rfl,b1,b3 1 (by decide),b3 7 (by decide),b3 9 (by decide),b2,b3 12 (by decide),b4,b5,b6⟩
     ·rintro a u3 ⟨z',nv,rfl,c3,k1,k7,k9,b7,b0,f1,f2,f3⟩
      obtain⟨t3,a9,rfl⟩:=QV z' c3;have j1:=a9 1 _ k1;have j7:=a9 7 _ k7;have j9:=a9 9 _ k9;have b9:=a9 11 _ b7;have b8:=a9 12 _ b0;clear a9 k1 k7 k9 b7 b0;rw[j1,j7,j9,b9,b8];clear j1 j7 j9 b9 b8 c3 c1 c2;obtain⟨n4,m8,n2,rfl⟩:=zV f3;have F1:=q1D f1;have F2:=q1D f2;have hS:=jh.own f3 (ZS λs hs=>(xR (qau.1 a8.out s hs)).1);obtain⟨n3,m9,e3,-⟩:=hS;cases e3;have HS:=q1D (jh.own f3 (ZS λs hs=>(xR (qau.1 a8.out s hs)).1));have hm:=d6.out;rw[expA_eq] at hm;have n7:IntKind.i64.wrap ((st:Int)+1)=(st:Int)+1:=qa7 _ (by omega);have g6:w0.grownBy u3 none:=xx (HG.out.trans c9.out) F1.out a7;have g7:w.grownBy u3 (some M):=(gsome c9.out _).trans F1.out;have l5:=q1D g6;have l6:=q1D g7;clear f1 f2 f3 g6 g7;split at hm
      ·rename_i hle
       split at hm
       ·rename_i c8
        cases hm;rw[c8];obtain⟨es,cl,e8,-⟩:=F2.out;have hcl:=Kf 0 e8;clear e8;go_wp2;simp only[Exit.jump];exact HQ.out _ _ rfl ⟨rfl,rfl,rfl⟩ (xx l5.out (grownBy_putObj' _ _ _) a7)
       ·rename_i c8
        have m7:(0:Int)<((yA (n - 1) K now).2.length:Int):=by
         have:=List.length_pos_iff.2 c8;omega
        have m5:=q1D hm;clear hm;go_wp2;go_step3;have m3:Yb≠M:=λe=>by rw[e] at HY;exact HM.out.not _ _ _ HY.out
        refine⟨rfl,⟨_,Yb,M,st+1,f,_,_,_,_,rfl,rfl,rfl,rfl,rfl,rfl,rfl,by simp,by omega,by simpa using m5.out,F2.out,a7,HS.out,l5.out,blk l6.out (by simpa using m3) HY.out,HP.out.kept l6.out (λR e=>by cases e;exact .inr a7)⟩,?_⟩;simp[st12,qb2];omega
      ·cases hm
  ·cases hm
end Go.Proofs.YtidgnkmjgioapaaGreat
end
