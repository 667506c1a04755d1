/-
  Part 5 of the proof. gladstonelaw04.PileChecks answers true for every yard, parcel, pile, number and list of numbers, and leaves its arguments as they were. No conditions.
-/
import Derived.Test.YtidgnkmjgioapaaGreatJ1
import Derived.Conc.AtomicLaws2
import Derived.StillTailTactics
set_option maxRecDepth 100000
set_option maxHeartbeats 8000000
set_option linter.all false
open And renaming intro->qhb
open Array renaming eq_empty_of_size_eq_zero->qlA,getD_eq_getD_getElem?->qik,getElem?_append->qki,getElem?_append_left->qml,getElem?_eq_getElem->qhi,getElem?_eq_some_iff->qgy,getElem?_push->ql1,getElem?_setIfInBounds->qhG,getElem?_setIfInBounds_ne->qif,getElem_append->qpo,mem_append->qkb,mem_of_getElem?->qiE,range->qkB,replicate->qi0,replicate_succ->qhq,replicate_zero->qhr
open Bool renaming and_eq_true->qhh,and_eq_true_iff->qpn,false_eq_true->qhy,not_eq_true'->qjA,not_false->qmg,true_and->qou
open Classical renaming byContradiction->qhF
open Go renaming Addr->qi5,Calls->qhw,Code->qje,Deferred->qiG,Event->qiq,Frame->qh4,FuncId->qib,block_lt_of_cell->qpx,Goroutine->qgC,Item->qkD,Oper->qiu,Operand->qhE,Program->qh2,Question->qj1,TypeId->qh8,TypeInfo->ql2,Value->qgB,World->qgx,bodyPost_ret->qj8,bytes->qng,callDeferred->qj0,doReturn->qj5,execOp->qk3,goexitEntry->qpm,grownCap->qkG,heap_alloc_new->qgF,heap_setCell_other->qko,heap_setCell_same->qon,info_parts->qjj,maxLen->qkq,results->qjb,run_underlying->qnj,stepG->qi7,storeCells->qnp,tryRecover->qhm,typeInfo->qkA,undef->qgD,unwind->qlm,wpList_append_own->qks,yielded->qj4
open Go.Builtin renaming append_->qku,firstCells->qoc,lenOf->qpB,min_->qo6,zeroCells->qjf
open Go.Calls renaming quiet_of_same->qiH
open Go.Conc renaming base->qhl,baseD->qir,dcall->qre,Goes->qmc,QuitsD->qoe,events_results_tmp->qn0,run_call_body->qm9,stepG_add_atomic->qld,stepG_block->qn6,stepG_load_atomic->qlp,stepG_region_end->qgE,stepG_seq->qha,stepG_skip->qin
open Go.Conc.Goes renaming stop->qj6
open Go.ConcN renaming WgLive->qjD
open Go.ConcR renaming DC0->qne
open Go.Frame renaming catches->qoq,enter->qhD,finish_at->qjg
open Go.GStep renaming after->qic
open Go.IntKind renaming wrap_i64->qmv
open Go.IntWalk renaming i64_in->qhp
open Go.Lib renaming hid->qgv
open Go.MemAct renaming ofEvent->qit,touch?->qjd
open Go.Proofs.Tryz renaming f136->qnt,f139->qlf,f141->qnv,f142->qn8,f143->qo9,f82->qpj,f85->qky,func139->qp5,func141->qqo,func142->qnk,ntmps28->qp6,ntmps31->qp2,ntmps32->qqq,prog->qh5
open Go.Region renaming binds->qi3,ready->qhd,wanted->qhv
open Go.Result renaming andThen_ok->qiv
open Go.RowKit renaming intOf->qi9
open Go.Sem renaming run_bind->qiy,run_pure->qms
open Go.Value renaming cells->qnE,int->qhj,oneCell'->qjk,ownBlock->qhB,slice->qi1
open Go.World renaming cell?->qhs,frozen?->qkr,grownBy_alloc->qgw,news_of_block->qiw,setCell->qjc,size_alloc->qh6
open Go.World.grownBy renaming andThen->qk6,refl->qh1
open List renaming all_eq_true->qid,append_assoc->qjp,cons_append->qhe,count_cons->qpa,drop_succ_cons->qhu,drop_zero->qia,eq_nil_of_length_eq_zero->qim,ext_getElem?->qls,filter_append->qn3,find?_eq_none->qlk,flatMap_cons->qjr,getElem?_eq_getElem->qgG,getElem?_eq_none->qi8,getElem?_eq_some_iff->qh9,getElem?_map->qj7,getElem?_range->ql3,getElem?_take->qm0,getElem?_take_of_lt->qiz,length_append->qio,length_cons->qh3,length_filter_le->qk5,length_map->qkw,length_nil->qhc,length_pos_iff->ql4,length_take->qjz,map_append->qji,map_cons->qla,map_nil->qnh,map_toArray->qmu,mem_append->qjv,mem_cons->qix,mem_map->ql7,mem_of_getElem?->qhg,mem_range->qjq,mem_singleton->qjC,mem_toArray->qkd,nil_append->qho,not_mem_nil->qiF,push_toArray->qhC,range->qht,setIfInBounds_toArray->qoi,size_toArray->qhn,take_add_one->qig,take_length->qis
open List.range renaming loop->qi4
open Nat renaming le_of_eq->qlF,le_refl->qgA,le_trans->qh0,lt_of_lt_of_le->qh7,lt_or_ge->qiC,reduceAdd->qhk,reduceSub->qii,zero_add->qhf,zero_le->qhx
open Option renaming bind_eq_some_iff->qi6,getD_some->qgH,map_some->qip,mem_toList->qqp
open Option.some renaming injEq->qhH
namespace Go.Proofs.YtidgnkmjgioapaaGreat
section
open Go.RowKit Go.Co
def ve(lo hi:Nat)(w:qgx)(v:qgB)(n:Nat)(c:Nat->Nat->Int):Prop :=
 ∃base cap,v=.slice base n cap/\(n:Int)<=1000000/\(0<n->∃B o cs ty fr,base=some ⟨B,o,none⟩/\lo<=B/\B<hi/\w.heap[B]?=some (.cells cs ty fr)/\∀i,i<n->∀d,d<5->cs[o+i*5+d]?=some (.int .i64 (c i d)))
def ovr(c g:Nat->Int)(l:List Int)(k:Nat):Nat->Int:=λd=>if(d:Int)∈l.take k then c d else g d
theorem q3A(c g:Nat->Int)(l:List Int)(k n:Nat)(h:l[k]?=some (n:Int))(d:Nat):ovr c g l (k+1) d=if d=n then c d else ovr c g l k d:=by
 unfold ovr;rw[qig,h];by_cases e:d=n
 ·subst e;simp
 ·have:¬ ((d:Int)=n):=by omega
  simp[e,this]
theorem qeC(lo hi:Nat)(t:Nat->qgB)(w0 w:qgx)(R:Act->qgx->Prop)(A V:Nat)(av vv:qgB)(N i:Nat)(c:Nat->Nat->Int)(wl:List Int)(B1 B2:Nat)(g h:Nat->Int)(h2:t 2=.pointer (some A))(hA:w0.cell? A=some av)(hC:ve lo hi w0 av N c)(h5:t 5=.pointer (some V))(hV:w0.cell? V=some vv)(hI:qf lo hi w0 vv wl)(h7:t 7=.int .i64 i)(l4:i<N)(h8:t 8=.pointer (some B1))(h9:t 9=.pointer (some B2))(hg:w0.grownBy w none)(a7:w.heap[B1]?=some (qG g))(a6:w.heap[B2]?=some (qG h))(hne:B1≠B2)(hb1:w0.heap.size<=B1)(m8:w0.heap.size<=B2)(hhi:hi<=w0.heap.size)(hx:∀x∈wl,0<=x/\x<5)(hR:∀(k9 k8 k7 k6 k5 k0 g9 g8 g7 g6 g5 e9 e8 e7 e6 e5 e4 d9 d8 d7 d6 d5 c9 c8:qgB) w',w0.grownBy w' none->w'.heap[B1]?=some (qG (ovr (c i) g wl wl.length))->w'.heap[B2]?=some (qG (ovr (c i) h wl wl.length)) ->R ⟨#[t 0,t 1,.pointer (some A),t 3,t 4,.pointer (some V),t 6,.int .i64 i,.pointer (some B1),.pointer (some B2),t 10,k9,t 12,t 13,t 14,t 15,t 16,t 17,t 18,t 19,t 20,t 21,t 22,t 23,t 24,k8,k7,k6,k5,k0,g9,g8,g7,g6,g5,e9,e8,e7,e6,e5,e4,d9,d8,d7,d6,d5,c9,c8,t 48,t 49,t 50,t 51,t 52,t 53,t 54,t 55,t 56,t 57,t 58,t 59],[]⟩ w') :wR4.wp Ya (yh R) ⟨#[t 0,t 1,t 2,t 3,t 4,t 5,t 6,t 7,t 8,t 9,t 10,t 11,t 12,t 13,t 14,t 15,t 16,t 17,t 18,t 19,t 20,t 21,t 22,t 23,t 24,t 25,t 26,t 27,t 28,t 29,t 30,t 31,t 32,t 33,t 34,t 35,t 36,t 37,t 38,t 39,t 40,t 41,t 42,t 43,t 44,t 45,t 46,t 47,t 48,t 49,t 50,t 51,t 52,t 53,t 54,t 55,t 56,t 57,t 58,t 59],[]⟩ w:=by
 obtain⟨ab,ac,rfl,hN,c3⟩:=hC;obtain⟨vb,vc,rfl,hq,b9⟩:=hI.cell;obtain⟨AB,ao,n6,n3,n4,rfl,m3,l9,b7,b6⟩:=c3 (by omega);have ⟨HR,HI,HX,HA,HV⟩:=ZS hR b9 hx hA hV;have HC:=qgv (qhb b7 b6);have ⟨HB1,HB2,HG⟩:=z8 a7 a6 hg;have n2:A<w0.heap.size:=qpx hA;have m9:V<w0.heap.size:=qpx hV;clear hR hI b9 c3 hx a7 a6 b7 b6;rw[h2,h5,h7,h8,h9];clear h2 h5 h7 h8 h9;simp only[wR4,jH,qlf,qgH,sqA,sqB,inn];have v0:=hg.cl hV;clear hA hV hg;go_wp2;clear v0;go_loopw [27] (λiv wr=>∃k:Nat,iv=.int .i64 k/\k<=wl.length/\w0.grownBy wr none/\wr.heap[B1]?=some (qG (ovr (c i) g wl k))/\wr.heap[B2]?=some (qG (ovr (c i) h wl k))) (λiv _=>(wl.length - qi9 iv).toNat)
 case atStart=>exact⟨0,rfl,by omega,HG.out,by rw[HB1.out];first | (congr 1;done) | (congr 1;exact yy λd _=>by simp[ovr]),by rw[HB2.out];first | (congr 1;done) | (congr 1;exact yy λd _=>by simp[ovr])⟩
 case round=>
  obtain⟨k,rfl,hk,hG,a7,a6⟩:=hrel;have ⟨HGk,HB1k,HB2k⟩:=z8 hG a7 a6;have a0:=hG.cl HA.out;have v0:=hG.cl HV.out;have m7:=(qgy.1 a7).1;have m6:=(qgy.1 a6).1;have hsz:=hG.size;by_cases hlt:k<wl.length
  ·obtain⟨VB,vo,rfl,l8,l7,l6,b0⟩:=HI.out (by intro e;rw[e] at hlt;simp at hlt);have x0:=hG.cl (b0 k hlt);obtain⟨x,a9⟩:∃x,wl[k]?=some x:=⟨_,qgG hlt⟩;obtain⟨m5,m4⟩:=HX.out x (qhg a9);rw[a9] at x0;simp only[qgH] at x0;obtain⟨n,rfl⟩:∃n:Nat,x=n:=⟨x.toNat,by omega⟩;have a8:n<5:=by omega
   have b8:w0.cell? ⟨AB,ao+i*5+n,none⟩=some (.int .i64 (c i n)):=q8 HC.out.1 (HC.out.2 i l4 n a8);have c0:=hG.cl b8;have d1:=ql a7 a8;have d2:=ql a6 a8;have f1:=jn a7;have f2:=jn a6;have HXE:=qgv a9;clear b0 a9 hG a7 a6 b8;go_upto_region 7 with(fail);have hin:(i:Int)<(N:Int):=by omega
   have l5:(n:Int)<5:=by omega
   have R1:((wr.setCell ⟨B1,n,none⟩ (.int .i64 (c i n))).setCell ⟨B2,n,none⟩ (.int .i64 (c i n))).heap[B1]?=some (qG (ovr (c i) g wl (k+1))):=by
    refine(blk (qe _ B2 _ _) (by simp;exact hne) (xZ HB1k.out a8)).trans ?_
    congr 1
    exact yy λd _=>by rw[q3A _ _ _ _ n HXE.out];split<;>simp_all
   have R2:((wr.setCell ⟨B1,n,none⟩ (.int .i64 (c i n))).setCell ⟨B2,n,none⟩ (.int .i64 (c i n))).heap[B2]?=some (qG (ovr (c i) h wl (k+1))):=by
    refine(xZ (blk (qe _ B1 _ _) (by simp;omega) HB2k.out) a8).trans ?_
    congr 1
    exact yy λd _=>by rw[q3A _ _ _ _ n HXE.out];split<;>simp_all
   have RG:w0.grownBy ((wr.setCell ⟨B1,n,none⟩ (.int .i64 (c i n))).setCell ⟨B2,n,none⟩ (.int .i64 (c i n))).drew none :=
    ((HGk.out.andThen (row':=some B1) (qe _ _ _ _) (by rintro j e;cases e;exact .inl (by omega))).andThen (row':=some B2) (qe _ _ _ _) (by rintro j e;cases e;exact .inl (by omega))).trans (qc _ _)
   have ⟨HR1,HR2,HRG⟩:=z8 R1 R2 RG;clear R1 R2 RG;go_region_law (fail);all_goals
    clear a0 x0 c0 d1 d2 f1 f2;go_wp2;go_roundw
    case rel=>exact⟨k+1,by simp,by omega,HRG.out,HR1.out,HR2.out⟩
    case measure=>simp[qi9];omega
  ·obtain rfl:k=wl.length:=by omega
   clear hG a7 a6 a0 v0;go_wp2;exact HR.out _ _ _ _ _ _ _ _ _ _ _ _ _ _ _ _ _ _ _ _ _ _ _ _ wr HGk.out HB1k.out HB2k.out
theorem qeB(lo hi:Nat)(t:Nat->qgB)(w0 w:qgx)(R:Act->qgx->Prop)(Y V:Nat)(yb:Option qi5)(yc:Nat)(vv:qgB)(ps:List Par)(lim:Int)(l:List Int)(B1 B2:Nat)(g h:Nat->Int)(h4:t 4=.pointer (some Y))(c3:w0.cell? Y=some (.slice yb ps.length yc))(b9:w0.cell? ⟨Y,1,none⟩=some (.int .i64 lim))(hP:qn lo hi w0 (.slice yb ps.length yc) ps)(h6:t 6=.pointer (some V))(hV:w0.cell? V=some vv)(hI:qf lo hi w0 vv l)(h8:t 8=.pointer (some B1))(h9:t 9=.pointer (some B2))(hg:w0.grownBy w none)(a7:w.heap[B1]?=some (qG g))(c8:w.heap[B2]?=some (qG h))(hhi:hi<=w0.heap.size)(b6:ps.length<=5)(hx:∀x∈l,0<=x/\x<ps.length)(hl:l.length<=1000)(hgb:∀i,0<=g i/\g i<=1000)(b7:∀i,0<=h i/\h i<=1000)(hR:∀(e7 e6 e5 e4 d9 d8 d7 d6 d5 c9:qgB) w',w.grownBy w' none->R ⟨#[t 0,t 1,t 2,t 3,.pointer (some Y),t 5,.pointer (some V),t 7,.pointer (some B1),.pointer (some B2),t 10,t 11,t 12,t 13,t 14,t 15,t 16,t 17,t 18,t 19,t 20,t 21,t 22,t 23,t 24,t 25,t 26,t 27,t 28,t 29,t 30,t 31,t 32,t 33,t 34,t 35,t 36,t 37,t 38,t 39,t 40,t 41,t 42,t 43,t 44,t 45,t 46,t 47,e7,e6,e5,e4,d9,d8,d7,d6,d5,c9,.bool (qz ps g l && !qz ps h l),t 59],[]⟩ w') :wR9.wp Ya (yh R) ⟨#[t 0,t 1,t 2,t 3,t 4,t 5,t 6,t 7,t 8,t 9,t 10,t 11,t 12,t 13,t 14,t 15,t 16,t 17,t 18,t 19,t 20,t 21,t 22,t 23,t 24,t 25,t 26,t 27,t 28,t 29,t 30,t 31,t 32,t 33,t 34,t 35,t 36,t 37,t 38,t 39,t 40,t 41,t 42,t 43,t 44,t 45,t 46,t 47,t 48,t 49,t 50,t 51,t 52,t 53,t 54,t 55,t 56,t 57,t 58,t 59],[]⟩ w:=by
 obtain⟨vb,vc,rfl,hq,-⟩:=hI.cell;have HR:=qgv hR;have HI:=qgv (hI.kept hg);have HP:=qgv (hP.kept hg);have ⟨HX,HGB,HHB,HB2⟩:=zY hx hgb b7 c8;have y0:=hg.cl c3;have y1:=hg.cl b9;have v0:=hg.cl hV;have e9:=hg.size;have a0:=ql a7 (show 0<5 by omega);have a1:=ql a7 (show 1<5 by omega);have a2:=ql a7 (show 2<5 by omega);have a3:=ql a7 (show 3<5 by omega);have a4:=ql a7 (show 4<5 by omega);rw[h4,h6,h8,h9];have SC:=qgv (qhb y0 (qhb y1 v0));clear hR hI hP hx hgb b7 c8 c3 b9 hV hg h4 h6 h8 h9 a7;simp only[wR9,jH,qlf,qgH,sqA,sqB,inn];obtain⟨s1,a9⟩:∃s1,qz ps g l=s1:=⟨_,rfl⟩;obtain⟨s2,a8⟩:∃s2,qz ps h l=s2:=⟨_,rfl⟩;rw[a9,a8] at HR;have ⟨HS1,HS2⟩:=qH a9 a8;clear a9 a8;cases s1
 ·go_wp2_with fail;refine(kB lo hi _ _ ps lim l g _ ⟨_,rfl,HP.out⟩ HI.out (by omega) b6 HX.out hl HGB.out).mono ?_;rintro e w5 ⟨rfl,a6⟩;rw[HS1.out];have HG5:=qgv a6;clear a6 y0 y1 v0 a0 a1 a2 a3 a4;go_wp2;exact HR.out _ _ _ _ _ _ _ _ _ _ _ HG5.out
 ·go_wp2_with fail;refine(kB lo hi _ _ ps lim l g _ ⟨_,rfl,HP.out⟩ HI.out (by omega) b6 HX.out hl HGB.out).mono ?_;rintro e w5 ⟨rfl,a6⟩;rw[HS1.out];have b0:=ql (bk a6 HB2.out) (show 0<5 by omega);have b1:=ql (bk a6 HB2.out) (show 1<5 by omega);have b2:=ql (bk a6 HB2.out) (show 2<5 by omega);have b3:=ql (bk a6 HB2.out) (show 3<5 by omega);have b4:=ql (bk a6 HB2.out) (show 4<5 by omega);have z0:=a6.cl SC.out.1;have z1:=a6.cl SC.out.2.1;have z2:=a6.cl SC.out.2.2;have hz:=a6.size;have e8:=qgv (HP.out.kept a6);have HI5:=qgv (HI.out.kept a6);have HG5:=qgv a6;clear a6 y0 y1 v0 a0 a1 a2 a3 a4;go_wp2_with fail;refine(kB lo hi _ _ ps lim l h _ ⟨_,rfl,e8.out⟩ HI5.out (by omega) b6 HX.out hl HHB.out).mono ?_;rintro e w6 ⟨rfl,b8⟩;rw[HS2.out];have HG6:=qgv b8;clear b8 b0 b1 b2 b3 b4 z0 z1 z2;cases s2
  ·go_wp2;exact HR.out _ _ _ _ _ _ _ _ _ _ _ (HG5.out.trans HG6.out)
  ·go_wp2;exact HR.out _ _ _ _ _ _ _ _ _ _ _ (HG5.out.trans HG6.out)
end
section
open Go Go.RowKit Go.Conc Go.ConcN Go.ConcN.Gen Go.Conc.Lib Go.ConcR.Gen Go.Co Go.Sim
def qM:qje->Array qiu | .region _ ops _=>ops | _=>#[]
noncomputable def wLB:qje:=inn (inn (sqB (Tryz.f139.body.getD .skip)))
noncomputable def qd4:Array qiu:=qM (sqA jH)
noncomputable def qaz:Array qiu:=qM (sqA (sqA (sqB jH)))
noncomputable def Zg:Array qiu:=qM (sqA (sqB (Tryz.f141.body.getD .skip)))
noncomputable def Zf:Array qiu:=qM (sqA (sqB (Tryz.f142.body.getD .skip)))
noncomputable def JX:Array qiu:=qM (Tryz.f143.body.getD .skip)
noncomputable def jp:List qkD:=[.inLoop wLB,.inBlock 0]
def pt(b:Nat):qgB:=.pointer (some b)
noncomputable def f1(tm:Array qgB)(D:List qiG):qh4:=(qir 139).at ⟨tm,D⟩ (.inRegion qd4 [0,1,2]::.code (sqB jH)::.inBlock 1::jp)
theorem K5(x:Array qgB)(h:x.size=60):∃y0 y1 y2 y3 y4 y5 y6 y7 y8 y9 y10 y11 y12 y13 y14 y15 y16 y17 y18 y19 y20 y21 y22 y23 y24 y25 y26 y27 y28 y29 y30 y31 y32 y33 y34 y35 y36 y37 y38 y39 y40 y41 y42 y43 y44 y45 y46 y47 y48 y49 y50 y51 y52 y53 y54 y55 y56 y57 y58 y59,x=#[y0,y1,y2,y3,y4,y5,y6,y7,y8,y9,y10,y11,y12,y13,y14,y15,y16,y17,y18,y19,y20,y21,y22,y23,y24,y25,y26,y27,y28,y29,y30,y31,y32,y33,y34,y35,y36,y37,y38,y39,y40,y41,y42,y43,y44,y45,y46,y47,y48,y49,y50,y51,y52,y53,y54,y55,y56,y57,y58,y59]:=by
 have e:=QC x;rw[h] at e;exact⟨_,_,_,_,_,_,_,_,_,_,_,_,_,_,_,_,_,_,_,_,_,_,_,_,_,_,_,_,_,_,_,_,_,_,_,_,_,_,_,_,_,_,_,_,_,_,_,_,_,_,_,_,_,_,_,_,_,_,_,_,e.trans rfl⟩
theorem q4p{Fz S:Bs}{A o size:Nat}(h:Fz A)(hs:A<size):EvC Fz S size ⟨.cell ⟨A,o,none⟩,false,Mode.plain == Mode.atomic⟩:=by
 refine⟨⟨by simp,by simp,by simp⟩,λm hm=>by simp at hm,λx hx b hb=>?_⟩;have hx':x=⟨.cell ⟨A,o,none⟩,false,.plain⟩:=by
  have e:(Mode.plain == Mode.atomic)=false:=by decide
  rw[e] at hx;simp[qit,qjd] at hx;exact hx.symm
 subst hx';simp only[Go.Co.blk,qhH] at hb;subst hb;exact⟨hs,rfl,.inr ⟨h,rfl⟩⟩
noncomputable def c20:qje:=sqB (sqA (sqB jH))
noncomputable def wX:qje:=sqB (sqB jH)
noncomputable def f2(tm:Array qgB)(D:List qiG):qh4:=(qir 139).at ⟨tm,D⟩ (.inRegion qaz [5,6]::.code c20::.code wX::.inBlock 1::jp)
section
variable{Fz:Bs}{K:qgx->qgx->Prop}{Stop:Bs->qgC->qgx->Prop}{S:Bs}(hK:∀a b c,K a b->K b c->K a c)
include hK
theorem qcG{tm:Array qgB}{D:List qiG}{real:List qh4}{Nx:Nat}{w:qgx}(h1:tm[1]?.getD qgD=pt Nx)(hstop:∀w₁,RC Fz K S w w₁->Stop S (G ((qhl 141).at ⟨#[pt Nx,.int .i64 1,qgD,qgD,.int .i64 0,pt Nx,pt Nx,pt Nx,.int .i64 1,qgD],[]⟩ [.inRegion Zg [4,5],.code .ret]) (f1 tm D::real)) w₁) :qk qh5 Fz K Stop S (G ((qir 139).at ⟨tm,D⟩ (.code wLB::jp)) real) w:=by
 simp only[f1,qd4,Zg,wLB,jH,jp,qlf,qnv,qgH,sqA,sqB,inn,qM] at hstop ⊢;refine qk.block hK ?_;refine qk.seq hK ?_;refine qk.region hK ?_;simp only[qhn,qh3,qhc,qhk,qhf,qht,qi4];refine qk.enter hK rfl rfl (by k_ne) rfl qqo (by kernel_rfl) rfl ?_
 walk_nrmf qnv
 rw[h1];simp only[pt] at hstop ⊢;refine qk.seq hK ?_;refine qk.region hK ?_;simp only[qhn,qh3,qhc,qhk,qhf,qht,qi4];refine qk.value hK (.int .i64 0) rfl rfl (by k_ne) (λ_=>by go_simp) (λ_=>by simp[go_sem]) ?_;walk_nrm;refine qk.region_end hK ?_;refine qk.seq hK ?_;refine qk.region hK ?_;simp only[qhn,qh3,qhc,qhk,qhf,qht,qi4];refine qk.value hK (.pointer (some Nx)) rfl rfl (by k_ne) (λ_=>by go_simp) (λ_=>by simp[go_sem]) ?_;walk_nrm;refine qk.value hK (.pointer (some Nx)) rfl rfl (by k_ne) (λ_=>by go_simp) (λ_=>by simp[go_sem]) ?_;walk_nrm;refine qk.value hK (.pointer (some Nx)) rfl rfl (by k_ne) (λ_=>by go_simp) (λ_=>by simp[go_sem]) ?_;walk_nrm;refine qk.value hK (.int .i64 1) rfl rfl (by k_ne) (λ_=>by go_simp) (λ_=>by simp[go_sem]) ?_;walk_nrm;exact qk.stop hstop
theorem qcF[JunkSet]{tm:Array qgB}(hsz:tm.size=60){D:List qiG}{real:List qh4}{Nx Fd A i N:Nat}{av:qgB}{ab:Option qi5}{ac:Nat}{w:qgx}(h2:tm[2]?.getD qgD=pt A)(h3:tm[3]?.getD qgD=pt Fd)(hA:∀w₁,RC Fz K S w w₁->w₁.cell? A=some (.slice ab N ac))(a7:Fz A)(a6:A<w.heap.size)(hi:i<N)(hN:N<=1000000)(hstop:∀w₁,RC Fz K S w w₁->Stop S (G ((qhl 142).at ⟨#[pt Fd,qgD,.bool false,pt Fd,pt Fd,pt Fd,qgD,qgD],[]⟩ [.inRegion Zf [3,4,5],.code .ret]) (f2 ((((((((tm.setIfInBounds 12 (.int .i64 (i+1))).setIfInBounds 13 (.int .i64 i)).setIfInBounds 7 (.int .i64 i)).setIfInBounds 14 (.int .i64 i)).setIfInBounds 15 (.slice ab N ac)).setIfInBounds 16 (.int .i64 N)).setIfInBounds 17 (.bool false)).setIfInBounds 18 (.bool false)) D::real)) w₁) :qk qh5 Fz K Stop S (G ((qhl 141).at ⟨#[pt Nx,.int .i64 1,qgD,qgD,.int .i64 0,pt Nx,pt Nx,pt Nx,.int .i64 1,.int .i64 (i+1)],[]⟩ [.inRegion Zg [5],.code .ret]) (f1 tm D::real)) w:=by
 obtain⟨y0,y1,y2,y3,y4,y5,y6,y7,y8,y9,y10,y11,y12,y13,y14,y15,y16,y17,y18,y19,y20,y21,y22,y23,y24,y25,y26,y27,y28,y29,y30,y31,y32,y33,y34,y35,y36,y37,y38,y39,y40,y41,y42,y43,y44,y45,y46,y47,y48,y49,y50,y51,y52,y53,y54,y55,y56,y57,y58,y59,rfl⟩:=K5 tm hsz;simp only[f1,f2,c20,wX,qd4,qaz,Zg,Zf,wLB,jH,jp,qlf,qnv,qn8,qgH,sqA,sqB,inn,qM] at hstop ⊢;simp at h2 h3;subst h2 h3;simp only[qoi,List.set_cons_succ,List.set_cons_zero] at hstop;simp only[pt] at hstop ⊢;have a8:IntKind.i64.wrap (i:Int)=i:=qhp _ (by omega);refine qk.value hK (.int .i64 (i+1)) rfl rfl (by k_ne) (λ_=>by go_simp) (λ_=>by simp[go_sem]) ?_;walk_nrm;refine qk.region_end hK ?_;refine qk.retS hK ?_;refine qk.leave1 hK rfl rfl qqo rfl ?_;walk_nrm;refine qk.value hK (.int .i64 i) rfl rfl (by k_ne) (λ_=>by go_simp) (λ_=>by simp[go_sem]) ?_;walk_nrm;refine qk.value hK (.int .i64 i) rfl rfl (by k_ne) (λ_=>by go_simp) (λ_=>by simp[go_sem]) ?_;walk_nrm;refine qk.region_end hK ?_;refine qk.seq hK ?_;refine qk.seq hK ?_;refine qk.region hK ?_;simp only[qhn,qh3,qhc,qhk,qhf,qht,qi4];refine qk.value hK (.int .i64 i) rfl rfl (by k_ne) (λ_=>by go_simp) (λ_=>by simp[go_sem]) ?_;walk_nrm;refine qk.load hK (.slice ab N ac) rfl rfl (by k_ne) (λw₁ h₁=>?_) ?_
 ·have hc:=hA w₁ h₁;refine⟨by go_simp,λe he=>?_⟩;simp[go_sem,hc] at he;rw[he];exact q4p a7 (qh7 a6 h₁.size)
 walk_nrm;refine qk.value hK (.int .i64 N) rfl rfl (by k_ne) (λ_=>by go_simp) (λ_=>by simp[go_sem]) ?_;walk_nrm;refine qk.value hK (.bool false) rfl rfl (by k_ne) (λ_=>by go_simp) (λ_=>by simp[go_sem]) ?_;walk_nrm;refine qk.value hK (.bool false) rfl rfl (by k_ne) (λ_=>by go_simp) (λ_=>by simp[go_sem]) ?_;walk_nrm;refine qk.enter hK rfl rfl (by k_ne) rfl qnk (by kernel_rfl) rfl ?_
 walk_nrmf qn8
 refine qk.seq hK ?_;refine qk.region hK ?_;simp only[qhn,qh3,qhc,qhk,qhf,qht,qi4];refine qk.value hK (.bool false) rfl rfl (by k_ne) (λ_=>by go_simp) (λ_=>by simp[go_sem]) ?_;walk_nrm;refine qk.region_end hK ?_;refine qk.seq hK ?_;refine qk.region hK ?_;simp only[qhn,qh3,qhc,qhk,qhf,qht,qi4];refine qk.value hK (.pointer (some Fd)) rfl rfl (by k_ne) (λ_=>by go_simp) (λ_=>by simp[go_sem]) ?_;walk_nrm;refine qk.value hK (.pointer (some Fd)) rfl rfl (by k_ne) (λ_=>by go_simp) (λ_=>by simp[go_sem]) ?_;walk_nrm;refine qk.value hK (.pointer (some Fd)) rfl rfl (by k_ne) (λ_=>by go_simp) (λ_=>by simp[go_sem]) ?_;walk_nrm;exact qk.stop hstop
end
end
section
open Go Go.RowKit Go.Conc Go.ConcN Go.ConcN.Gen Go.Conc.Lib Go.ConcR.Gen Go.Co Go.Sim
noncomputable def bot:qh4:={ (default:qh4) with fn:=Tryz.prog.funcs.size,mode:=.panicking [qpm] }
def dn(Wg:Nat):List qiG:=[qre 140 #[pt Wg]]
section
variable{Fz:Bs}{K:qgx->qgx->Prop}{Stop:Bs->qgC->qgx->Prop}{S:Bs}(hK:∀a b c,K a b->K b c->K a c)
include hK
theorem qar[JunkSet]{tm:Array qgB}(hsz:tm.size=60){D:List qiG}{real:List qh4}{Nx A i N:Nat}{ab:Option qi5}{ac:Nat}{w:qgx}(h2:tm[2]?.getD qgD=pt A)(hA:∀w₁,RC Fz K S w w₁->w₁.cell? A=some (.slice ab N ac))(a7:Fz A)(a6:A<w.heap.size)(hi:N<=i)(hN:i<=1000000)(hend:∀tm todo,qk qh5 Fz K Stop S (G { (qir 139).at ⟨tm,D⟩ todo with mode:=.returning } real) w) :qk qh5 Fz K Stop S (G ((qhl 141).at ⟨#[pt Nx,.int .i64 1,qgD,qgD,.int .i64 0,pt Nx,pt Nx,pt Nx,.int .i64 1,.int .i64 (i+1)],[]⟩ [.inRegion Zg [5],.code .ret]) (f1 tm D::real)) w:=by
 obtain⟨y0,y1,y2,y3,y4,y5,y6,y7,y8,y9,y10,y11,y12,y13,y14,y15,y16,y17,y18,y19,y20,y21,y22,y23,y24,y25,y26,y27,y28,y29,y30,y31,y32,y33,y34,y35,y36,y37,y38,y39,y40,y41,y42,y43,y44,y45,y46,y47,y48,y49,y50,y51,y52,y53,y54,y55,y56,y57,y58,y59,rfl⟩:=K5 tm hsz;simp only[f1,qd4,qaz,Zg,wLB,jH,jp,qlf,qnv,qgH,sqA,sqB,inn,qM];simp at h2;subst h2;simp only[pt];have a9:IntKind.i64.wrap (i:Int)=i:=qhp _ (by omega);have hge:decide ((N:Int)<=(i:Int))=true:=by simp;omega
 have a8:decide (N<=i)=true:=by simp;omega
 refine qk.value hK (.int .i64 (i+1)) rfl rfl (by k_ne) (λ_=>by go_simp) (λ_=>by simp[go_sem]) ?_;walk_nrm;refine qk.region_end hK ?_;refine qk.retS hK ?_;refine qk.leave1 hK rfl rfl qqo rfl ?_;walk_nrm;refine qk.value hK (.int .i64 i) rfl rfl (by k_ne) (λ_=>by go_simp) (λ_=>by simp[go_sem]) ?_;walk_nrm;refine qk.value hK (.int .i64 i) rfl rfl (by k_ne) (λ_=>by go_simp) (λ_=>by simp[go_sem]) ?_;walk_nrm;refine qk.region_end hK ?_;refine qk.seq hK ?_;refine qk.seq hK ?_;refine qk.region hK ?_;simp only[qhn,qh3,qhc,qhk,qhf,qht,qi4];refine qk.value hK (.int .i64 i) rfl rfl (by k_ne) (λ_=>by go_simp) (λ_=>by simp[go_sem]) ?_;walk_nrm;refine qk.load hK (.slice ab N ac) rfl rfl (by k_ne) (λw₁ h₁=>?_) ?_
 ·have hc:=hA w₁ h₁;refine⟨by go_simp,λe he=>?_⟩;simp[go_sem,hc] at he;rw[he];exact q4p a7 (qh7 a6 h₁.size)
 walk_nrm;refine qk.value hK (.int .i64 N) rfl rfl (by k_ne) (λ_=>by go_simp) (λ_=>by simp[go_sem]) ?_;walk_nrm;refine qk.value hK (.bool true) rfl rfl (by k_ne) (λ_=>by go_simp) (λ_=>by simp[go_sem]) ?_;walk_nrm;refine qk.value hK (.bool true) rfl rfl (by k_ne) (λ_=>by go_simp) (λ_=>by simp[go_sem]) ?_;walk_nrm;refine qk.unwanted hK rfl rfl ?_;walk_nrm;refine qk.value hK (.bool true) rfl rfl (by k_ne) (λ_=>by go_simp) (λ_=>by simp[go_sem]) ?_;walk_nrm;refine qk.region_end hK ?_;refine qk.cond hK true rfl ?_;simp only[if_true];refine qk.retS hK ?_;exact hend _ _
theorem qap{tm:Array qgB}(hsz:tm.size=60){D:List qiG}{real:List qh4}{Fd:Nat}{w:qgx}(a6:tm[18]?.getD qgD=.bool false)(hend:∀tm todo,qk qh5 Fz K Stop S (G { (qir 139).at ⟨tm,D⟩ todo with mode:=.returning } real) w) :qk qh5 Fz K Stop S (G ((qhl 142).at ⟨#[pt Fd,qgD,.bool false,pt Fd,pt Fd,pt Fd,.int .u32 1,qgD],[]⟩ [.inRegion Zf [4,5],.code .ret]) (f2 tm D::real)) w:=by
 obtain⟨y0,y1,y2,y3,y4,y5,y6,y7,y8,y9,y10,y11,y12,y13,y14,y15,y16,y17,y18,y19,y20,y21,y22,y23,y24,y25,y26,y27,y28,y29,y30,y31,y32,y33,y34,y35,y36,y37,y38,y39,y40,y41,y42,y43,y44,y45,y46,y47,y48,y49,y50,y51,y52,y53,y54,y55,y56,y57,y58,y59,rfl⟩:=K5 tm hsz;simp only[f2,c20,wX,qaz,Zf,wLB,jH,jp,qlf,qn8,qgH,sqA,sqB,inn,qM];simp at a6;subst a6;simp only[pt];refine qk.value hK (.bool true) rfl rfl (by k_ne) (λ_=>by go_simp) (λ_=>by simp[go_sem]) ?_;walk_nrm;refine qk.value hK (.bool true) rfl rfl (by k_ne) (λ_=>by go_simp) (λ_=>by simp[go_sem]) ?_;walk_nrm;refine qk.region_end hK ?_;refine qk.retS hK ?_;refine qk.leave1 hK rfl rfl qnk rfl ?_;walk_nrm;refine qk.value hK (.bool true) rfl rfl (by k_ne) (λ_=>by go_simp) (λ_=>by simp[go_sem]) ?_;walk_nrm;refine qk.region_end hK ?_;refine qk.cond hK true rfl ?_;simp only[if_true];refine qk.retS hK ?_;exact hend _ _
theorem qaq{tm:Array qgB}(hsz:tm.size=60){D:List qiG}{real:List qh4}{Fd:Nat}{w:qgx}(a6:tm[18]?.getD qgD=.bool false)(hend:qk qh5 Fz K Stop S (G ((qir 139).at ⟨(tm.setIfInBounds 19 (.bool false)).setIfInBounds 20 (.bool false),D⟩ (.code wX::.inBlock 1::jp)) real) w) :qk qh5 Fz K Stop S (G ((qhl 142).at ⟨#[pt Fd,qgD,.bool false,pt Fd,pt Fd,pt Fd,.int .u32 0,qgD],[]⟩ [.inRegion Zf [4,5],.code .ret]) (f2 tm D::real)) w:=by
 obtain⟨y0,y1,y2,y3,y4,y5,y6,y7,y8,y9,y10,y11,y12,y13,y14,y15,y16,y17,y18,y19,y20,y21,y22,y23,y24,y25,y26,y27,y28,y29,y30,y31,y32,y33,y34,y35,y36,y37,y38,y39,y40,y41,y42,y43,y44,y45,y46,y47,y48,y49,y50,y51,y52,y53,y54,y55,y56,y57,y58,y59,rfl⟩:=K5 tm hsz;simp only[f2,c20,wX,qaz,Zf,wLB,jH,jp,qlf,qn8,qgH,sqA,sqB,inn,qM] at hend ⊢;simp at a6;subst a6;simp only[pt];simp only[qoi,List.set_cons_succ,List.set_cons_zero] at hend;refine qk.value hK (.bool false) rfl rfl (by k_ne) (λ_=>by go_simp) (λ_=>by simp[go_sem]) ?_;walk_nrm;refine qk.value hK (.bool false) rfl rfl (by k_ne) (λ_=>by go_simp) (λ_=>by simp[go_sem]) ?_;walk_nrm;refine qk.region_end hK ?_;refine qk.retS hK ?_;refine qk.leave1 hK rfl rfl qnk rfl ?_;walk_nrm;refine qk.value hK (.bool false) rfl rfl (by k_ne) (λ_=>by go_simp) (λ_=>by simp[go_sem]) ?_;walk_nrm;refine qk.region_end hK ?_;refine qk.cond hK false rfl ?_;simp only[if_false,qhy];refine qk.skip hK ?_;exact hend
end
end
section
open Go Go.RowKit Go.Conc Go.ConcN Go.ConcN.Gen Go.Conc.Lib Go.ConcR.Gen Go.Co Go.Sim
noncomputable def q2H:qje:=sqB (sqB (sqB (sqB (sqB jH))))
noncomputable def q5C:Array qiu:=qM (match q2H with | .cond _ r _=>r | c=>c)
noncomputable def f10(tm:Array qgB)(D:List qiG):qh4:=(qir 139).at ⟨tm,D⟩ (.inRegion q5C [0]::.inBlock 1::jp)
structure I14(Fd:Nat)(l:Array Bool)(a:Act):Prop where
 c1:l[1]?.getD false=true->l[0]?.getD false=true
 c2:l[2]?.getD false=true->l[1]?.getD false=true
 c4:l[4]?.getD false=true->l[3]?.getD false=true
 c5:l[5]?.getD false=false
 ac:∃T4 T5 T6 T7 T8,a=⟨#[.pointer (some Fd),.bool true,qgD,qgD,T4,T5,T6,T7,T8,qgD],[]⟩/\(l[0]?.getD false=true->T4=.pointer (some Fd))/\(l[1]?.getD false=true->T5=.pointer (some Fd))/\(l[2]?.getD false=true->T6=.pointer (some Fd))/\(l[3]?.getD false=true->T7=.bool true)/\(l[4]?.getD false=true->T8=.int .u32 1)
section
variable{Fz:Bs}{K:qgx->qgx->Prop}{Stop:Bs->qgC->qgx->Prop}{S:Bs}(hK:∀a b c,K a b->K b c->K a c)
include hK
theorem qcC{tm:Array qgB}(hsz:tm.size=60){D:List qiG}{real:List qh4}{w:qgx}(h58:tm[58]?.getD qgD=.bool false)(hend:qk qh5 Fz K Stop S (G ((qir 139).at ⟨tm,D⟩ (.code wLB::jp)) real) w) :qk qh5 Fz K Stop S (G ((qir 139).at ⟨tm,D⟩ (.code q2H::.inBlock 1::jp)) real) w:=by
 obtain⟨y0,y1,y2,y3,y4,y5,y6,y7,y8,y9,y10,y11,y12,y13,y14,y15,y16,y17,y18,y19,y20,y21,y22,y23,y24,y25,y26,y27,y28,y29,y30,y31,y32,y33,y34,y35,y36,y37,y38,y39,y40,y41,y42,y43,y44,y45,y46,y47,y48,y49,y50,y51,y52,y53,y54,y55,y56,y57,y58,y59,rfl⟩:=K5 tm hsz;simp only[q2H,wLB,jH,jp,qlf,qgH,sqA,sqB,inn] at hend ⊢;simp at h58;subst h58;refine qk.cond hK false rfl ?_;simp only[if_false,qhy];refine qk.skip hK ?_;refine qk.inBlock hK ?_;refine qk.inLoop hK ?_;exact hend
theorem qcE{tm:Array qgB}{D:List qiG}{real:List qh4}{Fd:Nat}{w:qgx}(hend:qk qh5 Fz K Stop S (G ((qir 139).at ⟨tm.setIfInBounds 59 (.tuple #[]),D⟩ (.code wLB::jp)) real) w) :qk qh5 Fz K Stop S (G ((qhl 143).at ⟨#[pt Fd,.bool true,qgD,qgD,pt Fd,pt Fd,pt Fd,.bool true,.int .u32 1,.tuple #[]],[]⟩ [.inRegion JX []]) (f10 tm D::real)) w:=by
 simp only[f10,q5C,JX,q2H,wLB,jH,jp,qlf,qo9,qgH,sqA,sqB,inn,qM] at hend ⊢;refine qk.region_end hK ?_;refine qk.endS hK ?_;refine qk.leave0 hK rfl rfl Tryz.func143 rfl ?_;refine qk.region_end hK ?_;refine qk.inBlock hK ?_;refine qk.inLoop hK ?_;exact hend
theorem qcB(b0:∀w n,K w { w with drawn:=n }){tm:Array qgB}(hsz:tm.size=60){D:List qiG}{real:List qh4}{Fd:Nat}{w:qgx}(h3:tm[3]?.getD qgD=pt Fd)(h58:tm[58]?.getD qgD=.bool true)(hstop:∀w₁,RC Fz K S w w₁->Stop S (G ((qhl 143).at ⟨#[pt Fd,.bool true,qgD,qgD,pt Fd,pt Fd,pt Fd,.bool true,.int .u32 1,qgD],[]⟩ [.inRegion JX [5]]) (f10 tm D::real)) w₁) :qk qh5 Fz K Stop S (G ((qir 139).at ⟨tm,D⟩ (.code q2H::.inBlock 1::jp)) real) w:=by
 obtain⟨y0,y1,y2,y3,y4,y5,y6,y7,y8,y9,y10,y11,y12,y13,y14,y15,y16,y17,y18,y19,y20,y21,y22,y23,y24,y25,y26,y27,y28,y29,y30,y31,y32,y33,y34,y35,y36,y37,y38,y39,y40,y41,y42,y43,y44,y45,y46,y47,y48,y49,y50,y51,y52,y53,y54,y55,y56,y57,y58,y59,rfl⟩:=K5 tm hsz;simp only[f10,q5C,JX,q2H,wLB,jH,jp,qlf,qo9,qgH,sqA,sqB,inn,qM] at hstop ⊢;simp at h3 h58;subst h3 h58;simp only[pt] at hstop ⊢;refine qk.cond hK true rfl ?_;simp only[if_true];refine qk.region hK ?_;simp only[qhn,qh3,qhc,qhk,qhf,qht,qi4];refine qk.enter hK rfl rfl (by k_ne) rfl Tryz.func143 (by kernel_rfl) rfl ?_
 walk_nrmf qo9
 refine qk.region_inv hK (by kernel_rfl) b0 (I14 Fd) ?_ ?_ ?_
 ·exact⟨by simp,by simp,by simp,by simp,qgD,qgD,qgD,qgD,qgD,rfl,by simp,by simp,by simp,by simp,by simp⟩
 ·rintro l a i hl ⟨c1,c2,c4,c5,T4,T5,T6,T7,T8,rfl,k0,k1,k2,k3,k4⟩ hi rest a8 a7;have a9:=(zq hi).1;have b7:l.size=6:=hl;have gs:∀i j,i<6->(l.setIfInBounds i true)[j]?.getD false=if i=j then true else l[j]?.getD false:=λi j h=>QA l i j (by omega);have b6:=ZK hi;have a9:i=0\/i=1\/i=2\/i=3\/i=4\/i=5:=by
   have:i<6:=a9;omega
  rcases a9 with rfl | rfl | rfl | rfl | rfl | rfl
  ·refine qk.value hK (.pointer (some Fd)) rfl rfl (by k_ne) (λ_=>by go_simp) (λ_=>by simp[go_sem]) ?_;walk_nrm;exact a7 _ ⟨by simp[gs],by simpa[gs] using λh=>(c2 h),by simpa[gs] using c4,by simpa[gs] using c5,_,T5,T6,T7,T8,rfl,λ_=>rfl,by simpa[gs] using k1,by simpa[gs] using k2,by simpa[gs] using k3,by simpa[gs] using k4⟩
  ·have a6:=zo hi rfl;simp[qi3] at a6;obtain rfl:=k0 (by simp[a6]);refine qk.value hK (.pointer (some Fd)) rfl rfl (by k_ne) (λ_=>by go_simp) (λ_=>by simp[go_sem]) ?_;walk_nrm;exact a7 _ ⟨by simp[gs,a6],by simp[gs],by simpa[gs] using c4,by simpa[gs] using c5,_,_,T6,T7,T8,rfl,λ_=>rfl,λ_=>rfl,by simpa[gs] using k2,by simpa[gs] using k3,by simpa[gs] using k4⟩
  ·have a6:=zo hi rfl;simp[qi3] at a6;obtain rfl:=k1 (by simp[a6]);refine qk.value hK (.pointer (some Fd)) rfl rfl (by k_ne) (λ_=>by go_simp) (λ_=>by simp[go_sem]) ?_;walk_nrm;exact a7 _ ⟨by simpa[gs] using c1,by simp[gs,a6],by simpa[gs] using c4,by simpa[gs] using c5,T4,_,_,T7,T8,rfl,by simpa[gs] using k0,λ_=>rfl,λ_=>rfl,by simpa[gs] using k3,by simpa[gs] using k4⟩
  ·refine qk.value hK (.bool true) rfl rfl (by k_ne) (λ_=>by go_simp) (λ_=>by simp[go_sem]) ?_;walk_nrm;exact a7 _ ⟨by simpa[gs] using c1,by simpa[gs] using c2,by simp[gs],by simpa[gs] using c5,T4,T5,T6,_,T8,rfl,by simpa[gs] using k0,by simpa[gs] using k1,by simpa[gs] using k2,λ_=>rfl,by simpa[gs] using k4⟩
  ·have a6:=zo hi rfl;simp[qi3] at a6;obtain rfl:=k3 (by simp[a6]);refine qk.enter hK rfl rfl (by k_ne) rfl Tryz.func182 (by kernel_rfl) rfl ?_
   walk_nrmf Tryz.f182
   refine qk.seq hK ?_;refine qk.region hK ?_;simp only[qhn,qh3,qhc,qhk,qhf,qht,qi4];refine qk.value hK (.int .u32 0) rfl rfl (by k_ne) (λ_=>by go_simp) (λ_=>by simp[go_sem]) ?_;walk_nrm;refine qk.region_end hK ?_;refine qk.seq hK ?_;refine qk.seq hK ?_;refine qk.region hK ?_;simp only[qhn,qh3,qhc,qhk,qhf,qht,qi4];refine qk.value hK (.bool true) rfl rfl (by k_ne) (λ_=>by go_simp) (λ_=>by simp[go_sem]) ?_;walk_nrm;refine qk.region_end hK ?_;refine qk.cond hK true rfl ?_;simp only[if_true];refine qk.seq hK ?_;refine qk.region hK ?_;simp only[qhn,qh3,qhc,qhk,qhf,qht,qi4];refine qk.value hK (.int .u32 1) rfl rfl (by k_ne) (λ_=>by go_simp) (λ_=>by simp[go_sem]) ?_;walk_nrm;refine qk.region_end hK ?_;refine qk.retS hK ?_;refine qk.leave1 hK rfl rfl Tryz.func182 rfl ?_;walk_nrm;exact a7 _ ⟨by simpa[gs] using c1,by simpa[gs] using c2,by simp[gs,a6],by simpa[gs] using c5,T4,T5,T6,_,_,rfl,by simpa[gs] using k0,by simpa[gs] using k1,by simpa[gs] using k2,λ_=>rfl,λ_=>rfl⟩
  ·have a6:=zo hi rfl;simp[qi3] at a6;have d2:l[2]?.getD false=true:=by simp[a6]
   have d4:l[4]?.getD false=true:=by simp[a6]
   have d1:=c2 d2;have d0:=c1 d1;have d3:=c4 d4;obtain rfl:=k0 d0;obtain rfl:=k1 d1;obtain rfl:=k2 d2;obtain rfl:=k3 d3;obtain rfl:=k4 d4;have hr:rest=[]:=a8 (by
    simp only[qhd,List.filter_eq_nil_iff,qjq,qhh,qjA,not_and];intro j hj hn;exfalso;have b8:j<6:=hj;have hjs:j<(l.setIfInBounds 5 true).size:=by simp;omega
    have e:(l.setIfInBounds 5 true)[j]?.getD false=true:=by
     rw[gs 5 j (by omega)];obtain rfl | rfl | rfl | rfl | rfl | rfl:j=0\/j=1\/j=2\/j=3\/j=4\/j=5:=by omega
     all_goals simp[d0,d1,d2,d3,d4]
    simp only[qik,qhi hjs,qgH] at hn e;rw[hn] at e;cases e)
   subst hr;exact qk.stop hstop
 ·rintro l a hl ⟨c1,c2,c4,c5,T4,T5,T6,T7,T8,rfl,k0,k1,k2,k3,k4⟩ hr;have q0:=zT hr hl (i:=0) rfl (by simp[qi3]);have q1:=zT hr hl (i:=1) rfl (by simp[qi3,q0]);have q2:=zT hr hl (i:=2) rfl (by simp[qi3,q1]);have q3:=zT hr hl (i:=3) rfl (by simp[qi3]);have q4:=zT hr hl (i:=4) rfl (by simp[qi3,q3]);have q5:=zT hr hl (i:=5) rfl (by simp[qi3,q2,q4]);rw[c5] at q5;cases q5
end
end
section
open Go Go.RowKit Go.Conc Go.ConcN Go.ConcN.Gen Go.Conc.Lib Go.ConcR.Gen Go.Co Go.Sim
def ju(Wg Nx A Fd Y V B:Nat):Array qgB:=#[pt Wg,pt Nx,pt A,pt Fd,pt Y,pt V,pt B]
def q0h(Wg Nx A Fd Y V B:Nat):qiG:={ target:=.fn (.func 139) (ju Wg Nx A Fd Y V B),args:=#[] }
def tm0(Wg Nx A Fd Y V B:Nat):Array qgB:=#[pt Wg,pt Nx,pt A,pt Fd,pt Y,pt V,pt B]++qi0 53 qgD
section
variable{Fz:Bs}{K:qgx->qgx->Prop}{Stop:Bs->qgC->qgx->Prop}{S:Bs}(hK:∀a b c,K a b->K b c->K a c)
include hK
theorem q5w{Wg Nx A Fd Y V B:Nat}{w:qgx}(hend:qk qh5 Fz K Stop S (G ((qir 139).at ⟨tm0 Wg Nx A Fd Y V B,dn Wg⟩ (.code wLB::jp)) [bot]) w) :qk qh5 Fz K Stop S (born qh5 (q0h Wg Nx A Fd Y V B)) w:=by
 have hstep:∀w,qi7 qh5 false (born qh5 (q0h Wg Nx A Fd Y V B)) w=.go (G ((qir 139).at ⟨tm0 Wg Nx A Fd Y V B,[]⟩ [.code (Tryz.f139.body.getD .skip)]) [bot]) w #[]:=by
  intro w;simp[born,q0h,ju,qi7,qlm,qj0,invoke,callFunc,qp5,qlf,seen,qic,G,qhD,Frame.at,qir,bot,tm0];rfl
 refine qk.pure hK rfl hstep ?_;simp only[wLB,jp,qlf,qgH,sqA,sqB,inn] at hend ⊢;refine qk.seq hK ?_;refine qk.region hK ?_;simp only[qhn,qh3,qhc,qhk,qhf,qht,qi4];refine qk.pure hK rfl (λw=>stepG_defer rfl rfl (by k_ne) rfl) ?_;refine qk.region_end hK ?_;refine qk.block hK ?_;refine qk.loop hK ?_;have e:Act.put ⟨tm0 Wg Nx A Fd Y V B,[qre 140 (Array.map (Act.eval ⟨tm0 Wg Nx A Fd Y V B,[]⟩) #[Operand.tmp 0])]⟩ none qgD=⟨tm0 Wg Nx A Fd Y V B,dn Wg⟩:=by
  simp[Act.put,dn,Act.eval,tm0]
 rw[<- e] at hend;exact hend
end
end
section
open Go Go.RowKit Go.Conc Go.ConcN Go.ConcN.Gen Go.Conc.Lib Go.ConcR.Gen Go.Co Go.Sim
theorem q87(T:Array qgB)(todo:List qkD):qoe qh5 2 0 (G { (qir 139).at ⟨T,[]⟩ todo with mode:=.returning } [bot]):=by
 refine QuitsD.ctl (g':=G bot []) rfl (λw=>?_) ?_
 ·simp[G,qi7,qlm,qj5,qjb,Frame.at,qir,bot,qp5,qlf,seen,qic,qpm];try rfl
 refine QuitsD.ctl (g':={ G bot [] with status:=.finished }) rfl (λw=>?_) ⟨rfl,rfl⟩;simp[G,qi7,qlm,bot,qpm,qoq];rfl
section
variable{Fz:Bs}{K:qgx->qgx->Prop}{Stop:Bs->qgC->qgx->Prop}{S:Bs}(hK:∀a b c,K a b->K b c->K a c)
include hK
theorem qcD{Wg:Nat}{w:qgx}(hL:qjD 166 Wg w)(a7:∀w w₁,K w w₁->LR 166 Wg w w₁)(a6:∀g w,qfk qh5 166 Wg g w->Stop S g w)(tm:Array qgB)(todo:List qkD) :qk qh5 Fz K Stop S (G { (qir 139).at ⟨tm,dn Wg⟩ todo with mode:=.returning } [bot]) w:=by
 refine qk.pure hK rfl (λw=>stepG_unwind_enter (f:=140) (ds:=[]) rfl Yq.f_done (nm_done link) rfl) ?_;have:=Go.Co.done (L:=link) (Wg:=Wg) (cs:=[bot]) (qt:=2) Yq (c:={ (qir 139).at ⟨tm,[]⟩ todo with mode:=.returning }) rfl (q87 tm todo) w hL;exact qk.of_goes2 (λa b h=>a7 a b h.k) (λw=>LR.refl w) a6 this
end
end
section
open Go Go.Sim
def lst:List Nat:=[3,4,5,6,7,8,9,10,11,12,13,14,15,16,17,18,19,20,21,22,23,24,25,26,27,28,29,30,31,32,33,34,35,36,37,38,39,40,41,42,43,44,45,46,47,48,49,50,51,52,53,54,55,56,57,58,59,60,61,62,63,64,65,66,67,68,69,70,71,72,73,74,75,76,77,78,79,80,81,82,83,84,85,86,87,88,89,90,91,92,93,94,95,96,97,98,99,100,101,102,103,104,105,106,107,108,109,110,111,112,113,114,115,116,117,118,119,120,121,122,123,124,125,126,127,128,129,130,131,132,133,134,135,136,137,145,146,147,148,149,150,151,152,153,154,155,156,157,158,159,160,161,162,163,164,165,182,188,189,190,191,192,193,194,195,196,197,198,199,200,206,207,208,209,210,211,212,213,214,215,216,217,218,219,220,221,222,223,224,241,242]
noncomputable def ls:Lets:=⟨λf=>lst.contains f,λn=>n == "gladstone/pile.holds",λb ts=>biB Ya b ts⟩
theorem qd7{f:Nat}(h:ls.f f=true):f∈lst:=by
 have:lst.contains f=true:=h;simpa using this
theorem qfb:(lst.all λf=>qdh Ya qh5 ls f)=true:=by kernel_rfl
theorem qfa:(lst.all λf=>qdh Ya Ya ls f)=true:=by kernel_rfl
theorem q4B:(lst.all λf=>qbG Ya ls f)=true:=by kernel_rfl
def qe3(Q:qh2)(s:Lets)(n:String)(t:Nat):Bool:=match Q.info? t with
 | none=>true
 | some i=>match i.methods.find? (·.name == n) with
  | none=>true
  | some m=>m.path.isEmpty && (match m.func with | some (f,b)=>s.f f && (b || (match Q.underlying t with | some (.pointer _)=>false | _=>true)) | none=>false)
theorem q3u{f:qh8->Option ql2}{d:TypeDesc}{i:ql2}(h:Made.reckon f d=some i):i.methods=#[]:=by
 unfold Made.reckon at h;split at h
 ·obtain⟨j,-,h⟩:=qi6.1 h;split at h
  ·cases h
  ·split at h
   ·cases h
   ·obtain⟨x,-,h⟩:=qi6.1 h;cases h;rfl
  ·obtain⟨x,-,h⟩:=qi6.1 h;cases h;rfl
 ·obtain⟨j,-,h⟩:=qi6.1 h;obtain⟨x,-,h⟩:=qi6.1 h;cases h;rfl
 ·obtain⟨j,-,h⟩:=qi6.1 h;obtain⟨x,-,h⟩:=qi6.1 h;obtain⟨x,-,h⟩:=qi6.1 h;obtain⟨x,-,h⟩:=qi6.1 h;cases h;rfl
 ·obtain⟨j,-,h⟩:=qi6.1 h;obtain⟨x,-,h⟩:=qi6.1 h;cases h;rfl
 ·obtain⟨j,-,h⟩:=qi6.1 h;cases h;rfl
 ·obtain⟨j,-,h⟩:=qi6.1 h;obtain⟨x,-,h⟩:=qi6.1 h;cases h;rfl
 ·unfold Made.reckonStruct at h;obtain⟨r,-,h⟩:=qi6.1 h;split at h<;>(dsimp only at h;split at h<;>(cases h;rfl))
 ·cases h
theorem q8w{P:qh2}{t:Nat}{i:ql2}(h:P.info? t=some i):t<P.types.size\/i.methods=#[]:=by
 by_cases ht:t<P.types.size
 ·exact .inl ht
 ·have h':Tables.info? P.toTables t=some i:=h;unfold Tables.info? at h';rw[if_neg ht] at h';unfold Made.depth Made.infoAt at h';rw[if_neg ht] at h';obtain⟨d,-,h2⟩:=qi6.1 h';exact .inr (q3u h2)
theorem qgb:((qht Ya.types.size).all (qe3 Ya ls "gladstone/pile.holds"))=true:=by kernel_rfl
theorem q71:∀n,ls.m n=true->∀t i m,Ya.info? t=some i->i.methods.find? (·.name == n)=some m->m.path=#[]/\∃f b,m.func=some (f,b)/\ls.f f=true/\∀e,Ya.underlying t=some (.pointer e)->b=true:=by
 intro n hn t i m hi hf;obtain rfl:n = "gladstone/pile.holds" := by simpa[ls] using hn
 have ht:t<Ya.types.size:=(q8w hi).resolve_right λe=>by rw[e] at hf;cases hf
 have h:=qid.1 qgb t (qjq.2 ht);unfold qe3 at h;rw[hi] at h;dsimp only at h;rw[hf] at h;dsimp only at h;obtain⟨h1,h2⟩:=qpn.1 h;refine⟨by simpa using h1,?_⟩;cases hm:m.func with
 | none=>rw[hm] at h2;cases h2
 | some fb=>
  obtain⟨f,b⟩:=fb;rw[hm] at h2;dsimp only at h2;obtain⟨h3,h4⟩:=qpn.1 h2;refine⟨f,b,rfl,h3,λe he=>?_⟩;rw[he] at h4;simpa using h4
theorem ne85:Ya.funcs[85]?≠Tryz.prog.funcs[85]?:=by
 intro h;have h1:(Ya.funcs[85]?).map (λf=>f.body.isNone || (match f.body with | some (.exit _)=>true | _=>false))=some true:=by kernel_rfl
 rw[h] at h1;have h2:(Tryz.prog.funcs[85]?).map (λf=>f.body.isNone || (match f.body with | some (.exit _)=>true | _=>false))=some false:=by kernel_rfl
 rw[h2] at h1;cases h1
theorem z6(f:Nat)(h:f≠85):Ya.funcs[f]?=Tryz.prog.funcs[f]?:=by
 unfold Ya;dsimp only;rw[qhG,if_neg (λe=>h e.symm)]
theorem qe9(jk:Nat->Prop):@Duo (JS Ya qh5 ls jk) Ya qh5:=by
 refine qbx rfl (by kernel_rfl) (by kernel_rfl) (λb ts h=>h) (λf h=>?_) (λf h hs=>?_) q71
 ·exact qid.1 qfb f (qd7 h)
 ·exact qid.1 q4B f (qd7 h)
theorem qe8(jk:Nat->Prop):@Duo (JS Ya Ya ls jk) Ya Ya:=by
 refine qbx rfl (by kernel_rfl) (by kernel_rfl) (λb ts h=>h) (λf h=>?_) (λf h hs=>?_) q71
 ·exact qid.1 qfa f (qd7 h)
 ·exact qid.1 q4B f (qd7 h)
theorem qfs(Q P:qh2)(s:Lets)(jk:Nat->Prop):Up (JS Q P s jk) (JS Q Q s jk) :=
 ⟨λ_ h=>h,λ_ h=>h,λ_ _ h=>h,λ_ h=>h,λ_ ⟨⟨g,h1,_⟩,h2⟩=>⟨⟨g,h1,h1⟩,h2⟩,rfl⟩
theorem up(jk:Nat->Prop):Up (JS Ya qh5 ls jk) (JS Ya Ya ls jk):=qfs _ _ _ _
theorem qa1:∀fk,Ya.funcs[fk]?≠Tryz.prog.funcs[fk]?->∀a k cs u,∃o w es,qi7 Ya true { frame:=qhD Ya fk a k,callers:=cs,status:=.running,dying:=none } u true=.ended o w es:=by
 intro fk h a k cs u;have e:fk=85:=qhF λhn=>h (z6 fk hn);subst e;have hb:(Ya.funcs[85]?).bind (·.body)=some (.exit 0):=by kernel_rfl
 unfold qhD;dsimp only;rw[hb];exact⟨_,_,_,rfl⟩
theorem hrf:Tryz.prog.follows .rangeFuncRecover=true:=by kernel_rfl
end
end Go.Proofs.YtidgnkmjgioapaaGreat
section
namespace Go.Co
open Go Go.Sim
def frz:Obj->Obj
 | .cells c e f=>.cells c e (0,max c.size f.2)
 | _=>.cells #[] 0
noncomputable def JE(Q:qh2)(W:qgx)(nds jks:List Nat)(b:Nat):Obj :=
 if b∈jks then qf0 Q else if b∈nds then(match W.heap[b]? with | some o=>frz o | none=>.cells #[] 0) else .cells #[] 0
noncomputable def lw(Q:qh2)(W:qgx)(nds jks:List Nat):qgx:={ W with heap:=(qkB W.heap.size).map (JE Q W nds jks) }
def lr(n:Nat)(nds jks:List Nat):Ren:=(qht n).map λb=>if b∈nds\/b∈jks then some b else none
section
variable{Q:qh2}{W:qgx}{nds jks:List Nat}
theorem q72:(lw Q W nds jks).heap.size=W.heap.size:=by simp[lw]
theorem q2f{b:Nat}(h:b<W.heap.size):(lw Q W nds jks).heap[b]?=some (JE Q W nds jks b):=by simp[lw,h]
theorem JP{n i j:Nat}:BR (lr n nds jks) i j↔i<n/\i=j/\(i∈nds\/i∈jks):=by
 unfold BR lr;rw[qj7];by_cases h:i<n
 ·rw[ql3 h];simp only[qip,qhH,h,true_and];split
  ·rename_i hm;simp[hm]
  ·rename_i hm;simp[hm]
 ·rw[qi8 (by simp;omega)];simp[h]
theorem q74{b:Nat}{cs:Array qgB}{e:qh8}{f:Nat × Nat}(hb:b∈nds)(hj:b∉jks)(h:W.heap[b]?=some (.cells cs e f)):(lw Q W nds jks).heap[b]?=some (.cells cs e (0,max cs.size f.2)):=by
 rw[q2f (qgy.1 h).1];unfold JE;rw[if_neg hj,if_pos hb,h];rfl
theorem qg0[J:JunkSet]{w:qgx}(a7:∀i,JunkSet.jk i↔i∈jks)(hg:Q.globals.size=0)(hd:∀b∈nds,b∉jks)(hn:∀b∈nds,b<W.heap.size)(hj:∀b∈jks,b<W.heap.size)(hok:∀b∈nds,∃cs e f,W.heap[b]?=some (.cells cs e f)/\∀(i:Nat) (v:qgB),cs[i]?=some v->VR (lr W.heap.size nds jks) v v)(hw:∀b∈nds,w.heap[b]?=W.heap[b]?)(hs:W.heap.size<=w.heap.size)(ho:w.os=W.os)(a8:∀b∈jks,∃c e f,w.heap[b]?=some (.cells c e f)) :WR Q W.heap.size (lr W.heap.size nds jks) (lw Q W nds jks) w where
 len:=by simp[lr,lw]
 nodup:=λi i' j h h'=>by rw[JP] at h h';omega
 lt:=λi j h=>by rw[JP] at h;omega
 obj:=λi j o h hx=>by
  rw[JP] at h;obtain⟨h1,rfl,h2⟩:=h;rw[q2f h1] at hx;cases hx;by_cases hm:i∈jks
  ·refine .inl ⟨(a7 i).2 hm,by unfold JE;rw[if_pos hm],by omega,a8 i hm⟩
  ·have a6:i∈nds:=h2.resolve_right hm;obtain⟨cs,e,f,hc,hv⟩:=hok i a6;refine .inr ⟨λk=>hm ((a7 i).1 k),.cells cs e f,by rw[hw i a6,hc],?_⟩;have:JE Q W nds jks i=.cells cs e (0,max cs.size f.2):=by
    unfold JE;rw[if_neg hm,if_pos a6,hc];rfl
   rw[this];exact .cells e ⟨rfl,λk x y hx hy=>by rw[hx] at hy;cases hy;exact hv k x hx⟩ λo h1 h2=>by omega
 low:=λi hi=>by
  rw[q2f hi];unfold JE;split
  ·exact⟨_,_,_,rfl,λo ho=>by simp at ho⟩
  ·split
   ·split
    ·rename_i o ho
     cases o with
     | cells c e f=>exact⟨_,_,_,rfl,λo ho=>by simp;omega⟩
     | _=>exact⟨_,_,_,rfl,λo ho=>by simp at ho⟩
    ·exact⟨_,_,_,rfl,λo ho=>by simp at ho⟩
   ·exact⟨_,_,_,rfl,λo ho=>by simp at ho⟩
 env:=by show W.os.env=w.os.env;rw[ho]
 below:=λi hi=>hj i ((a7 i).1 hi)
 gar:=λi o hx=>by
  right;have hi:i<W.heap.size:=by
   have:=(qgy.1 hx).1
   rwa [q72] at this
  rw[q2f hi] at hx;cases hx;unfold JE;split
  ·rfl
  ·split
   ·split
    ·rename_i o _;cases o<;>rfl
    ·rfl
   ·rfl
end
end Go.Co
namespace Go.Proofs.YtidgnkmjgioapaaGreat
open Go Go.Co Go.Sim
section
variable{Q:qh2}{W:qgx}{nds jks:List Nat}{lo hi:Nat}
theorem xq{b o:Nat}{cs:Array qgB}{e:qh8}{f:Nat × Nat}{v:qgB}(hb:b∈nds)(hj:b∉jks)(h:W.heap[b]?=some (.cells cs e f))(hv:cs[o]?=some v):(lw Q W nds jks).cell? ⟨b,o,none⟩=some v :=
 q8 (q74 hb hj h) hv
theorem q75{v:qgB}{l:List Int}(h:qf lo hi W v l)(hd:∀b∈nds,b∉jks)(hb:∀B o n c,v=.slice (some ⟨B,o,none⟩) n c->l≠[]->B∈nds):qf lo hi (lw Q W nds jks) v l:=by
 obtain⟨base,cap,rfl,hl,hr⟩:=h;refine⟨base,cap,rfl,hl,λhne=>?_⟩;obtain⟨B,o,cs,fr,rfl,e2,e3,e4,e5⟩:=hr hne;have hB:=hb B o _ _ rfl hne;exact⟨B,o,cs,_,rfl,e2,e3,q74 hB (hd B hB) e4,e5⟩
theorem q73{v:qgB}{ps:List Par}(h:qn lo hi W v ps)(hd:∀b∈nds,b∉jks)(hb:∀B o n c,v=.slice (some ⟨B,o,none⟩) n c->ps≠[]->B∈nds):qn lo hi (lw Q W nds jks) v ps:=by
 obtain⟨base,cap,rfl,hl,hr⟩:=h;refine⟨base,cap,rfl,hl,λhne=>?_⟩;obtain⟨B,o,cs,fr,rfl,e2,e3,e4,e5⟩:=hr hne;have hB:=hb B o _ _ rfl hne;exact⟨B,o,cs,_,rfl,e2,e3,q74 hB (hd B hB) e4,e5⟩
theorem qb2{v:qgB}{n:Nat}{c:Nat->Nat->Int}(h:ve lo hi W v n c)(hd:∀b∈nds,b∉jks)(hb:∀B o n' c,v=.slice (some ⟨B,o,none⟩) n' c->0<n->B∈nds):ve lo hi (lw Q W nds jks) v n c:=by
 obtain⟨base,cap,rfl,hl,hr⟩:=h;refine⟨base,cap,rfl,hl,λhne=>?_⟩;obtain⟨B,o,cs,ty,fr,rfl,e2,e3,e4,e5⟩:=hr hne;have hB:=hb B o _ _ rfl hne;exact⟨B,o,cs,ty,_,rfl,e2,e3,q74 hB (hd B hB) e4,e5⟩
end
end Go.Proofs.YtidgnkmjgioapaaGreat
end
section
namespace Go.Proofs.YtidgnkmjgioapaaGreat
open Go Go.RowKit Go.Conc Go.ConcN Go.ConcN.Gen Go.Conc.Lib Go.ConcR.Gen Go.Co Go.Sim
inductive Lam | st | ld (i:Nat) | wk (i:Nat) | fn
structure Ph4 where
 W1:qgx
 clA:Nat->Cl
 lo:Nat
 Wg:Nat
 Nx:Nat
 A:Nat
 Fd:Nat
 Y:Nat
 V:Nat
 B:Nat
 ps:List Par
 lim:Int
 l:List Int
 wl:List Int
 N:Nat
 c:Nat->Nat->Int
 yb:Option qi5
 yc:Nat
 ab:Option qi5
 ac:Nat
 pv:qgB
 vv:qgB
 nds:List Nat
 Post:qgB->qgx->Prop
 Fin:qgC->qgx->Prop
 AnchW:qgC->qgx->Prop
namespace Ph4
variable(x:Ph4)
def jks:List Nat:=[x.Wg,x.Nx,x.Fd]
def jk(b:Nat):Prop:=b∈x.jks
@[reducible] noncomputable def js:JunkSet:=JS Ya qh5 ls x.jk
def Fz(b:Nat):Prop:=b<x.W1.heap.size/\x.clA b=.ro x.lo
def Sy(b:Nat):Prop:=b=x.Nx\/b=x.Fd
def DataAt(W:Nat × Bool)(w:qgx):Prop:=w.heap[x.Nx]?=some (.cells #[W.1] 158 (0,0))/\w.heap[x.Fd]?=some (.cells #[.int .u32 (if W.2 then 1 else 0)] 161 (0,0))
def Liv(w:qgx):Prop:=qjD 166 x.Wg w/\∃W,x.DataAt W w
def K(w w₁:qgx):Prop:=(qjD 166 x.Wg w->qjD 166 x.Wg w₁)/\((∃W,x.DataAt W w)->∃W,x.DataAt W w₁)
def gn:Nat->Int:=pre Par.mn x.ps x.ps.length
def gx:Nat->Int:=pre Par.mx x.ps x.ps.length
def bad(i:Nat):Bool:=qz x.ps (ovr (x.c i) x.gn x.wl x.wl.length) x.l && !qz x.ps (ovr (x.c i) x.gx x.wl x.wl.length) x.l
noncomputable def w0:qgx:=lw Ya x.W1 x.nds x.jks
def r0:Ren:=Go.Co.lr x.W1.heap.size x.nds x.jks
def tmp0:Array qgB:=tm0 x.Wg x.Nx x.A x.Fd x.Y x.V x.B
structure Ok:Prop where
 hlo:1<=x.lo
 hY:x.W1.heap[x.Y]?=some (.cells #[.slice x.yb x.ps.length x.yc,x.lim] 91 (0,0))
 hV:x.W1.heap[x.V]?=some (.cells #[x.vv] 29 (0,0))
 hB:x.W1.heap[x.B]?=some (.cells #[x.pv] 29 (0,0))
 hA:x.W1.heap[x.A]?=some (.cells #[.slice x.ab x.N x.ac] 152 (0,0))
 pars:qn 0 x.W1.heap.size x.W1 (.slice x.yb x.ps.length x.yc) x.ps
 ints:qf 0 x.W1.heap.size x.W1 x.vv x.wl
 intp:qf 0 x.W1.heap.size x.W1 x.pv x.l
 cas:ve 0 x.W1.heap.size x.W1 (.slice x.ab x.N x.ac) x.N x.c
 n5:x.ps.length<=5
 bmn:∀i,0<=x.gn i/\x.gn i<=1000
 bmx:∀i,0<=x.gx i/\x.gx i<=1000
 bc:∀i d,0<=x.c i d/\x.c i d<=1000
 hl:∀y∈x.l,0<=y/\y<x.ps.length
 ll:x.l.length<=1000
 hwl:∀y∈x.wl,0<=y/\y<5
 hN:x.N<=900000
 jlt:∀b∈x.jks,b<x.W1.heap.size
 ne1:x.Nx≠x.Fd
 ne2:x.Wg≠x.Nx
 ne3:x.Wg≠x.Fd
 sync:∀b∈x.jks,x.clA b=.sync
 nro:∀b∈x.nds,x.clA b=.ro x.lo
 nok:∀b∈x.nds,∃cs e f,x.W1.heap[b]?=some (.cells cs e f)/\∀(i:Nat) (v:qgB),cs[i]?=some v->@VR x.js x.r0 v v
 n0:0∈x.nds
 nY:x.Y∈x.nds
 nV:x.V∈x.nds
 nB:x.B∈x.nds
 nA:x.A∈x.nds
 nyb:∀B o n c,qi1 x.yb x.ps.length x.yc=.slice (some ⟨B,o,none⟩) n c->x.ps≠[]->B∈x.nds
 nvv:∀B o n c,x.vv=.slice (some ⟨B,o,none⟩) n c->x.wl≠[]->B∈x.nds
 npv:∀B o n c,x.pv=.slice (some ⟨B,o,none⟩) n c->x.l≠[]->B∈x.nds
 nab:∀B o n c,qi1 x.ab x.N x.ac=.slice (some ⟨B,o,none⟩) n c->0<x.N->B∈x.nds
 cla0:∀b,x.W1.heap.size<=b->x.clA b=.mine 0
structure Cm(w:qgx):Prop where
 liv:x.Liv w
 fz:∀b,x.Fz b->w.heap[b]?=x.W1.heap[b]?
 size:x.W1.heap.size<=w.heap.size
 os:w.os=x.W1.os
structure Wk(S:Bs)(Z:Ren)(a:Act)(tm:Array qgB)(wq w:qgx):Prop where
 rel:@qfh x.js Ya qh5 x.W1.heap.size x.Fz S x.jk (λb=>b<x.W1.heap.size) Z a tm wq w
 le:Le x.r0 Z
 gr:x.w0.grownBy (wq.tp x.w0.tape) none
 sz:a.tmps.size=60
 cap:∀k,k<7->a.tmps[k]?=x.tmp0[k]?
def WA(l:Lam)(S:Bs)(g:qgC)(w:qgx):Prop:=x.Cm w/\match l with
 | .st=>(g=born qh5 (q0h x.Wg x.Nx x.A x.Fd x.Y x.V x.B)/\∀b,¬ S b) \/
   ∃Z a tm wq,x.Wk S Z a tm wq w/\g=G ((qhl 143).at ⟨#[pt x.Fd,.bool true,qgD,qgD,pt x.Fd,pt x.Fd,pt x.Fd,.bool true,.int .u32 1,.tuple #[]],[]⟩ [.inRegion JX []]) [f10 tm (dn x.Wg),bot]
 | .ld i=>i<x.N/\∃Z a tm wq,x.Wk S Z a tm wq w/\g=G ((qhl 141).at ⟨#[pt x.Nx,.int .i64 1,qgD,qgD,.int .i64 0,pt x.Nx,pt x.Nx,pt x.Nx,.int .i64 1,.int .i64 (i+1)],[]⟩ [.inRegion Zg [5],.code .ret]) [f1 tm (dn x.Wg),bot]
 | .wk i=>i<x.N/\∃Z a tm wq,x.Wk S Z a tm wq w/\a.tmps[7]?=some (.int .i64 i)/\a.tmps[18]?=some (.bool false)/\g=G ((qhl 142).at ⟨#[pt x.Fd,qgD,.bool false,pt x.Fd,pt x.Fd,pt x.Fd,.int .u32 0,qgD],[]⟩ [.inRegion Zf [4,5],.code .ret]) [f2 tm (dn x.Wg),bot]
 | .fn=>∃Z a tm wq,x.Wk S Z a tm wq w/\((∃i:Nat,x.N<=i/\i<=1000000/\g=G ((qhl 141).at ⟨#[pt x.Nx,.int .i64 1,qgD,qgD,.int .i64 0,pt x.Nx,pt x.Nx,pt x.Nx,.int .i64 1,.int .i64 (i+1)],[]⟩ [.inRegion Zg [5],.code .ret]) [f1 tm (dn x.Wg),bot]) \/
   (a.tmps[18]?=some (.bool false)/\g=G ((qhl 142).at ⟨#[pt x.Fd,qgD,.bool false,pt x.Fd,pt x.Fd,pt x.Fd,.int .u32 1,qgD],[]⟩ [.inRegion Zf [4,5],.code .ret]) [f2 tm (dn x.Wg),bot]))
def fin:Lam->Prop | .fn=>True | _=>False
def Tr(W:Nat × Bool)(l:Lam)(γ':Nat × Bool)(l':Lam):Prop :=
 ((l=.st\/∃i,l=.wk i/\x.bad i=false)/\γ'=(W.1+1,W.2)/\l'=(if W.1<x.N then .ld W.1 else .fn)) \/
 (∃i,l=.ld i/\γ'=W/\l'=(if W.2 then .fn else .wk i)) \/
 (∃i,l=.wk i/\x.bad i=true/\i<x.N/\γ'=(W.1,true)/\l'=.st)
def JY:Lam->Bool | .fn=>true | _=>false
def xz:Nat->(Nat->Lam)->Nat
 | 0,_=>0
 | j+1,ls=>xz j ls+(if JY (ls j) then 1 else 0)
def J(W:Nat × Bool)(j:Nat)(ls:Nat->Lam):Prop :=
 W.1<=x.N+xz j ls/\(W.2=true->∃i,i<x.N/\x.bad i=true)/\(W.2=false->∀i,i<x.N->i<W.1->x.bad i=false\/∃k,k<j/\(ls k=.ld i\/ls k=.wk i))/\(∀k,k<j->ls k=.fn->W.2=true\/x.N<=W.1)
def m(W:Nat × Bool):Nat:=3*(x.N - W.1)
def nu:Lam->Nat | .fn=>0 | .st=>1 | .wk _=>2 | .ld _=>3
noncomputable def cfg:Cfg (Nat × Bool) Lam where
 P:=qh5
 ty:=166
 Wg:=x.Wg
 lo:=x.lo
 n:=min 4 x.N
 Fz:=x.Fz
 Sy:=x.Sy
 clA:=x.clA
 DataAt:=x.DataAt
 WA:=x.WA
 Tr:=x.Tr
 J:=x.J
 m:=x.m
 nu:=nu
 l0:=.st
 fin:=fin
 W1:=x.W1
 Fin:=x.Fin
 AnchW:=x.AnchW
 Post:=x.Post
end Ph4
end Go.Proofs.YtidgnkmjgioapaaGreat
end
section
namespace Go.Proofs.YtidgnkmjgioapaaGreat
open Go Go.RowKit Go.Conc Go.ConcN Go.ConcN.Gen Go.Conc.Lib Go.ConcR.Gen Go.Co Go.Sim
namespace Ph4
section
variable{x:Ph4}{S:Bs}{w w₁:qgx}{Z:Ren}{a:Act}{tm:Array qgB}{wq:qgx}
theorem kt:∀a b c,x.cfg.K a b->x.cfg.K b c->x.cfg.K a c:=Cfg.K.trans
theorem Cm.rely(h:x.Cm w)(r:RC x.Fz x.cfg.K S w w₁):x.Cm w₁ :=
 ⟨⟨r.k.1 h.liv.1,r.k.2 h.liv.2⟩,λb hb=>(r.fz b hb).trans (h.fz b hb),qh0 h.size r.size,r.os.trans h.os⟩
theorem Liv.cells(h:x.Liv w){b:Nat}(hb:b∈x.jks):∃c e f,w.heap[b]?=some (.cells c e f):=by
 obtain⟨⟨st,sm,hw⟩,W,h1,h2⟩:=h;unfold jks at hb;simp only[qix,qiF,or_false] at hb;rcases hb with rfl | rfl | rfl
 ·exact⟨_,_,_,hw⟩
 ·exact⟨_,_,_,h1⟩
 ·exact⟨_,_,_,h2⟩
theorem Wk.to(h:x.Wk S Z a tm wq w)(hk:∀b,x.Fz b\/S b->w₁.heap[b]?=w.heap[b]?)(hs:w.heap.size<=w₁.heap.size)(ho:w₁.os=w.os)(hl:x.Liv w₁):x.Wk S Z a tm wq w₁:=by
 letI:JunkSet:=x.js
 exact{ h with rel:=⟨h.rel.len,h.rel.wr.rely hs (by rw[ho]) (λi j hij a6=>by
    rcases qiC i x.W1.heap.size with hlt | hge
    ·exact hk j (.inl (h.rel.own.low i j hij hlt a6))
    ·exact hk j (.inr (h.rel.own.own i j hij hge))) (λi j hij a6=>hl.cells (h.rel.jb i j hij a6)),h.rel.gl,h.rel.tm,h.rel.df,h.rel.own,h.rel.jb,h.rel.js⟩ }
theorem Wk.rely(h:x.Wk S Z a tm wq w)(hc:x.Cm w)(r:RC x.Fz x.cfg.K S w w₁):x.Wk S Z a tm wq w₁ :=
 h.to (λb hb=>hb.elim (r.fz b) (r.own b)) r.size r.os (hc.rely r).liv
theorem Wk.set(h:x.Wk S Z a tm wq w)(i:Nat)(hi:7<=i){u v:qgB}(hv:@VR x.js Z u v):x.Wk S Z ⟨a.tmps.setIfInBounds i u,a.defers⟩ (tm.setIfInBounds i v) wq w:=by
 letI:JunkSet:=x.js
 exact{ h with
  rel:=⟨h.rel.len,h.rel.wr,h.rel.gl,@AsR.set x.js _ _ _ h.rel.tm i _ _ hv,h.rel.df,h.rel.own,h.rel.jb,h.rel.js⟩
  sz:=by simp[h.sz]
  cap:=λk hk=>by
   show(a.tmps.setIfInBounds i u)[k]?=_;rw[qif (by omega)];exact h.cap k hk }
theorem br0{b:Nat}(hb:b∈x.nds\/b∈x.jks)(hlt:b<x.W1.heap.size):BR x.r0 b b:=JP.2 ⟨hlt,rfl,hb⟩
theorem Wk.ptr(h:x.Wk S Z a tm wq w){k b:Nat}(hk:a.tmps[k]?=some (pt b))(hb:BR x.r0 b b):tm[k]?.getD qgD=pt b:=by
 letI:JunkSet:=x.js
 obtain⟨y,hy,hv⟩:=@AsR.get x.js _ _ _ h.rel.tm k _ hk;rw[hy];unfold pt at hv ⊢;cases hv with
 | ptr off spot hij=>rw[BR.fn hij (hb.mono h.le)];rfl
theorem Wk.bool(h:x.Wk S Z a tm wq w){k:Nat}{t:Bool}(hk:a.tmps[k]?=some (.bool t)):tm[k]?.getD qgD=.bool t:=by
 letI:JunkSet:=x.js
 obtain⟨y,hy,hv⟩:=@AsR.get x.js _ _ _ h.rel.tm k _ hk;rw[hy];cases hv;rfl
theorem Wk.tsz(h:x.Wk S Z a tm wq w):tm.size=60:=by
 letI:JunkSet:=x.js
 have h1:=h.rel.tm.1;rw[<- h1];exact h.sz
theorem Ok.fz(o:x.Ok){b:Nat}(hb:b∈x.nds):x.Fz b:=by
 obtain⟨cs,e,f,h,_⟩:=o.nok b hb;exact⟨(qgy.1 h).1,o.nro b hb⟩
theorem Ok.dj(o:x.Ok):∀b∈x.nds,b∉x.jks:=λb hb hj=>by
 have h1:=o.nro b hb;rw[o.sync b hj] at h1;cases h1
theorem Ok.ndlt(o:x.Ok){b:Nat}(hb:b∈x.nds):b<x.W1.heap.size:=(o.fz hb).1
theorem Ok.t1(o:x.Ok)(h:x.Wk S Z a tm wq w):tm[1]?.getD qgD=pt x.Nx:=h.ptr ((h.cap 1 (by omega)).trans (by simp[tmp0,tm0,qki])) (br0 (.inr (by simp[jks])) (o.jlt _ (by simp[jks])))
theorem Ok.t2(o:x.Ok)(h:x.Wk S Z a tm wq w):tm[2]?.getD qgD=pt x.A:=h.ptr ((h.cap 2 (by omega)).trans (by simp[tmp0,tm0,qki])) (br0 (.inl o.nA) (o.ndlt o.nA))
theorem Ok.t3(o:x.Ok)(h:x.Wk S Z a tm wq w):tm[3]?.getD qgD=pt x.Fd:=h.ptr ((h.cap 3 (by omega)).trans (by simp[tmp0,tm0,qki])) (br0 (.inr (by simp[jks])) (o.jlt _ (by simp[jks])))
theorem Ok.cellA(o:x.Ok)(h:x.Cm w):w.cell? x.A=some (.slice x.ab x.N x.ac):=q8 ((h.fz _ (o.fz o.nA)).trans o.hA) rfl
theorem Ok.vrA(o:x.Ok):@VR x.js x.r0 (.slice x.ab x.N x.ac) (.slice x.ab x.N x.ac):=by
 obtain⟨cs,e,f,h,hv⟩:=o.nok _ o.nA;rw[o.hA] at h;cases h;exact hv 0 _ rfl
end
end Ph4
end Go.Proofs.YtidgnkmjgioapaaGreat
end
section
namespace Go.Proofs.YtidgnkmjgioapaaGreat
open Go Go.RowKit Go.Conc Go.ConcN Go.ConcN.Gen Go.Conc.Lib Go.ConcR.Gen Go.Co Go.Sim
theorem Qf{w:qgx}{b o:Nat}{cs:Array qgB}{e:qh8}(h:w.heap[b]?=some (.cells cs e (0,0))):w.frozen? ⟨b,o,none⟩=false:=by
 simp[qkr,h]
theorem qda{n:Nat}(h:n<=1000001):IntKind.i64.wrap (n:Int)=n:=qhp _ (by omega)
namespace Ph4
theorem qdr(j:Nat)(ls:Nat->Lam):xz j ls<=j:=by
 induction j with
 | zero=>exact qgA _
 | succ j ih=>unfold xz;split<;>omega
section
variable{x:Ph4}(o:x.Ok){S:Bs}{w:qgx}{Z:Ren}{a:Act}{tm:Array qgB}{wq:qgx}
include o
theorem Ok.fzne{b:Nat}(hb:x.Fz b){j:Nat}(hj:j∈x.jks):b≠j:=by
 rintro rfl;have h:=hb.2;rw[o.sync _ hj] at h;cases h
theorem Ok.after(hc:x.Cm w){b:Nat}(hb:b=x.Nx\/b=x.Fd)(v:qgB){γ':Nat × Bool}(hd:x.DataAt γ' (w.setCell b v)):x.Cm (w.setCell b v) where
 liv:=by
  obtain⟨st,sm,hw⟩:=hc.liv.1;refine⟨⟨st,sm,?_⟩,γ',hd⟩;show(w.setCell b v).heap[x.Wg]?=_;rw[qko _ _ _ _ (by rcases hb with rfl | rfl;exact o.ne2;exact o.ne3)];exact hw
 fz:=λc a6=>by
  rw[qko _ _ _ _ (o.fzne a6 (by rcases hb with rfl | rfl<;>simp[jks]))];exact hc.fz c a6
 size:=by simpa using hc.size
 os:=hc.os
theorem Ok.wkafter(hc:x.Cm w)(h:x.Wk S Z a tm wq w){b:Nat}(hb:b=x.Nx\/b=x.Fd)(v:qgB)(hl:x.Liv (w.setCell b v)):x.Wk S Z a tm wq (w.setCell b v):=by
 letI:JunkSet:=x.js
 have a7:b∈x.jks:=by rcases hb with rfl | rfl<;>simp[jks]
 refine h.to (λc a6=>?_) (by simp) rfl hl;refine qko _ _ _ _ ?_;rcases a6 with a6 | a6
 ·exact o.fzne a6 a7
 ·rintro rfl;exact h.rel.js _ (o.jlt _ a7) a6
theorem Ok.sync1{l:Lam}(hl:l=.st\/∃i,l=.wk i/\x.bad i=false)(hc:x.Cm w)(h:x.Wk S Z a tm wq w) :x.cfg.Stop l S (G ((qhl 141).at ⟨#[pt x.Nx,.int .i64 1,qgD,qgD,.int .i64 0,pt x.Nx,pt x.Nx,pt x.Nx,.int .i64 1,qgD],[]⟩ [.inRegion Zg [4,5],.code .ret]) (f1 tm (dn x.Wg)::[bot])) w:=by
 refine⟨rfl,.inr ⟨by rcases hl with rfl | ⟨i,rfl,_⟩<;>exact id,?_⟩⟩;rintro⟨c,b⟩ hd ⟨j,ls,hj,hJ⟩;have hγ:c<=x.N+4:=by
  have h1:c<=x.N+xz j ls:=hJ.1;have h3:=qdr j ls;have h2:j<=min 4 x.N:=hj;omega
 have hN:=o.hN;obtain⟨d1,d2⟩:=hd;have hcell:w.cell? x.Nx=some (.int .i64 c):=q8 d1 rfl;have hz:=Qf (o:=0) d1;have a8:IntKind.i64.wrap ((c:Int)+1)=c+1:=by have:=qda (n:=c+1) (by omega);simpa using this
 have a7:x.DataAt (c+1,b) (w.setCell x.Nx (.int .i64 (c+1))):=by
  refine⟨?_,?_⟩
  ·rw[qon _ _ _ _ _ _ d1];simp
  ·rw[qko _ _ _ _ (Ne.symm o.ne1)];exact d2
 have a6:=o.after hc (.inl rfl) (.int .i64 (c+1)) a7;have hk':=o.wkafter hc h (.inl rfl) (.int .i64 (c+1)) a6.liv;refine⟨G ((qhl 141).at ⟨#[pt x.Nx,.int .i64 1,qgD,qgD,.int .i64 0,pt x.Nx,pt x.Nx,pt x.Nx,.int .i64 1,.int .i64 (c+1)],[]⟩ [.inRegion Zg [5],.code .ret]) (f1 tm (dn x.Wg)::[bot]),w.setCell x.Nx (.int .i64 (c+1)),#[⟨.cell ⟨x.Nx,0,none⟩,false,true⟩,⟨.cell ⟨x.Nx,0,none⟩,true,true⟩],(c+1,b),if c<x.N then .ld c else .fn,?_,λc hcs=>qko _ _ _ _ λe=>hcs (.inl e),by simp,rfl,rfl,?_,a7,.inl ⟨hl,rfl,rfl⟩,?_⟩
 ·refine(qld (o:=Zg[4]'(by simp only[Zg,qnv,qgH,sqA,sqB,qM];decide)) (by simp) (by simp only[Zg,qnv,qgH,sqA,sqB,qM];rfl) (by k_ne) (by simp only[Zg,qnv,qgH,sqA,sqB,qM];rfl) Tryz.func179 (by kernel_rfl) (by kernel_rfl) (by kernel_rfl) .i64 (by kernel_rfl) rfl rfl hcell hz).trans ?_;rw[a8];simp only[Zg,qnv,qgH,sqA,sqB,qM];rfl
 ·intro e he;simp at he;rcases he with rfl | rfl
  ·exact⟨_,_,rfl,.inl rfl⟩
  ·exact⟨_,_,rfl,.inl rfl⟩
 ·show x.WA _ _ _ _;split
  ·rename_i hlt
   exact⟨a6,hlt,Z,a,tm,wq,hk',rfl⟩
  ·rename_i hge
   exact⟨a6,Z,a,tm,wq,hk',.inl ⟨c,by omega,by omega,rfl⟩⟩
theorem Ok.sync2{i:Nat}(hi:i<x.N)(hc:x.Cm w)(h:x.Wk S Z a tm wq w)(h7:a.tmps[7]?=some (.int .i64 i))(a6:a.tmps[18]?=some (.bool false)) :x.cfg.Stop (.ld i) S (G ((qhl 142).at ⟨#[pt x.Fd,qgD,.bool false,pt x.Fd,pt x.Fd,pt x.Fd,qgD,qgD],[]⟩ [.inRegion Zf [3,4,5],.code .ret]) (f2 tm (dn x.Wg)::[bot])) w:=by
 refine⟨rfl,.inr ⟨id,?_⟩⟩;rintro⟨c,b⟩ hd ⟨j,ls,hj,hJ⟩;have a7:=hd;obtain⟨d1,d2⟩:=hd;have hcell:w.cell? x.Fd=some (.int .u32 (if b then 1 else 0)):=q8 d2 rfl;refine⟨G ((qhl 142).at ⟨#[pt x.Fd,qgD,.bool false,pt x.Fd,pt x.Fd,pt x.Fd,.int .u32 (if b then 1 else 0),qgD],[]⟩ [.inRegion Zf [4,5],.code .ret]) (f2 tm (dn x.Wg)::[bot]),w,#[⟨.cell ⟨x.Fd,0,none⟩,false,true⟩],(c,b),if b then .fn else .wk i,?_,λc hcs=>rfl,rfl,rfl,rfl,?_,a7,.inr (.inl ⟨i,rfl,rfl,rfl⟩),?_⟩
 ·refine(qlp (o:=Zf[3]'(by simp only[Zf,qn8,qgH,sqA,sqB,qM];decide)) (by simp) (by simp only[Zf,qn8,qgH,sqA,sqB,qM];rfl) (by k_ne) (by simp only[Zf,qn8,qgH,sqA,sqB,qM];rfl) Tryz.func180 (by kernel_rfl) (by kernel_rfl) (by kernel_rfl) .u32 (by kernel_rfl) rfl hcell).trans ?_;simp only[Zf,qn8,qgH,sqA,sqB,qM];rfl
 ·intro e he;simp at he;subst he;exact⟨_,_,rfl,.inr rfl⟩
 ·show x.WA _ _ _ _;cases b with
  | true=>exact⟨hc,Z,a,tm,wq,h,.inr ⟨a6,rfl⟩⟩
  | false=>exact⟨hc,hi,Z,a,tm,wq,h,h7,a6,rfl⟩
theorem Ok.sync3{i:Nat}(hi:i<x.N)(hb:x.bad i=true)(hc:x.Cm w)(h:x.Wk S Z a tm wq w) :x.cfg.Stop (.wk i) S (G ((qhl 143).at ⟨#[pt x.Fd,.bool true,qgD,qgD,pt x.Fd,pt x.Fd,pt x.Fd,.bool true,.int .u32 1,qgD],[]⟩ [.inRegion JX [5]]) (f10 tm (dn x.Wg)::[bot])) w:=by
 refine⟨rfl,.inr ⟨id,?_⟩⟩;rintro⟨c,b⟩ hd ⟨j,ls,hj,hJ⟩;obtain⟨d1,d2⟩:=hd;have hcell:w.cell? x.Fd=some (.int .u32 (if b then 1 else 0)):=q8 d2 rfl;have hz:=Qf (o:=0) d2;have a6:x.DataAt (c,true) (w.setCell x.Fd (.int .u32 1)):=by
  refine⟨?_,?_⟩
  ·rw[qko _ _ _ _ o.ne1];exact d1
  ·rw[qon _ _ _ _ _ _ d2];simp
 have a7:=o.after hc (.inr rfl) (.int .u32 1) a6;have hk':=o.wkafter hc h (.inr rfl) (.int .u32 1) a7.liv;refine⟨G ((qhl 143).at ⟨#[pt x.Fd,.bool true,qgD,qgD,pt x.Fd,pt x.Fd,pt x.Fd,.bool true,.int .u32 1,.tuple #[]],[]⟩ [.inRegion JX []]) (f10 tm (dn x.Wg)::[bot]),w.setCell x.Fd (.int .u32 1),#[⟨.cell ⟨x.Fd,0,none⟩,true,true⟩],(c,true),.st,?_,λc hcs=>qko _ _ _ _ λe=>hcs (.inr e),by simp,rfl,rfl,?_,a6,.inr (.inr ⟨i,rfl,hb,hi,rfl,rfl⟩),?_⟩
 ·refine(stepG_store_atomic (o:=JX[5]'(by simp only[JX,qo9,qgH,sqA,sqB,qM];decide)) (by simp) (by simp only[JX,qo9,qgH,sqA,sqB,qM];rfl) (by k_ne) (by simp only[JX,qo9,qgH,sqA,sqB,qM];rfl) Tryz.func181 (by kernel_rfl) (by kernel_rfl) (by kernel_rfl) (by kernel_rfl) rfl rfl hcell hz).trans ?_;simp only[JX,qo9,qgH,sqA,sqB,qM];rfl
 ·intro e he;simp at he;subst he;exact⟨_,_,rfl,.inr rfl⟩
 ·exact(⟨a7,.inr ⟨Z,a,tm,wq,hk',rfl⟩⟩:x.WA .st S _ _)
end
end Ph4
end Go.Proofs.YtidgnkmjgioapaaGreat
end
section
namespace Go.Proofs.YtidgnkmjgioapaaGreat
open Go Go.RowKit Go.Conc Go.ConcN Go.ConcN.Gen Go.Conc.Lib Go.ConcR.Gen Go.Co Go.Sim
theorem qc6[JunkSet]{Z:Ren}{t:Array qgB}(h:∀v∈t,VR Z v v):AsR Z t t:=⟨rfl,λi u v hu hv=>by
 rw[hu] at hv;cases hv;exact h u (qiE hu)⟩
theorem qfr:wX=.seq wR3 (.seq wR4 (.seq wR9 q2H)):=by kernel_rfl
theorem ck3:kh Ya ls wR3=true:=by kernel_rfl
theorem ck4:kh Ya ls wR4=true:=by kernel_rfl
theorem ck9:kh Ya ls wR9=true:=by kernel_rfl
theorem hrr(fr:qh4):qhm fr [bot]=none:=by
 unfold qhm;split
 ·rename_i h
  cases h;simp[bot,qpm]
 ·rename_i h
  cases h;have:qhm bot []=none:=by
   unfold qhm;rfl
  rw[this];rfl
 ·rfl
namespace Ph4
section
variable{x:Ph4}(o:x.Ok){S:Bs}{w:qgx}{Z:Ren}{a:Act}{tm:Array qgB}{wq:qgx}
include o
theorem Ok.born(hc:x.Cm w)(hS:∀b,¬ S b):x.Wk S x.r0 ⟨x.tmp0,[]⟩ x.tmp0 x.w0 w:=by
 letI:JunkSet:=x.js
 refine⟨⟨by simp[r0,Go.Co.lr],?_,λi hi=>?_,?_,rfl,⟨λi j h _ hj=>?_,λi j h hb=>?_⟩,λi j h hj=>?_,λj _=>hS j⟩,Le.refl _,qh1 _ _,by simp[tmp0,tm0],λ_ _=>rfl⟩
 ·exact qg0 (λi=>Iff.rfl) (by kernel_rfl) o.dj (λb hb=>o.ndlt hb) o.jlt o.nok (λb hb=>hc.fz b (o.fz hb)) hc.size hc.os λb hb=>hc.liv.cells hb
 ·have h0:Tryz.prog.globals.size=0:=by kernel_rfl
  have:i=0:=by omega
  subst this;exact br0 (.inl o.n0) (o.ndlt o.n0)
 ·refine qc6 λv hv=>?_;have hp:∀b,b∈x.nds\/b∈x.jks->VR x.r0 (pt b) (pt b):=λb hb=>.ptr 0 none (br0 hb (hb.elim (λh=>o.ndlt h) λh=>o.jlt _ h));simp only[tmp0,tm0,qkb,Array.mem_replicate,qkd,qix,qiF,or_false] at hv;rcases hv with(rfl | rfl | rfl | rfl | rfl | rfl | rfl) | ⟨_,rfl⟩
  ·exact hp _ (.inr (by simp[jks]))
  ·exact hp _ (.inr (by simp[jks]))
  ·exact hp _ (.inl o.nA)
  ·exact hp _ (.inr (by simp[jks]))
  ·exact hp _ (.inl o.nY)
  ·exact hp _ (.inl o.nV)
  ·exact hp _ (.inl o.nB)
  ·exact kz _
 ·obtain⟨h1,rfl,h2⟩:=JP.1 h;rcases h2 with h2 | h2
  ·exact o.fz h2
  ·exact absurd h2 hj
 ·obtain⟨h1,rfl,h2⟩:=JP.1 h;omega
 ·obtain⟨h1,rfl,h2⟩:=JP.1 h;exact hj
theorem Ok.piece{Stop:Bs->qgC->qgx->Prop}(hSo:∀S g w off,Stop S g w->Stop S { g with offers:=off } w){c:qje}(hco:kh Ya ls c=true){k:List qkD}(hc:x.Cm w)(h:x.Wk S Z a tm wq w){R:Act->qgx->Prop}(hwp:∀T,c.wp Ya (yh R) a (wq.tp T))(hR:∀a' u,R a' u->a'.defers=[]/\a'.tmps.size=60/\(∀k,k<7->a'.tmps[k]?=x.tmp0[k]?)/\x.w0.grownBy (u.tp x.w0.tape) none)(hend:∀S' ρ' a' tm' wq' w',R a' wq'->x.Cm w'->x.Wk S' ρ' a' tm' wq' w'->qk qh5 x.Fz x.cfg.K Stop S' (G ((qir 139).at ⟨tm',dn x.Wg⟩ k) [bot]) w') :qk qh5 x.Fz x.cfg.K Stop S (G ((qir 139).at ⟨tm,dn x.Wg⟩ (.code c::k)) [bot]) w:=by
 letI:JunkSet:=x.js
 refine qk.piece (J:=x.js) (qe9 x.jk) (X:=⟨JS Ya Ya ls x.jk⟩) (up x.jk) (qe8 x.jk) hrf hrr qa1 x.jk (λb=>b<x.W1.heap.size) x.Cm (λS w w₁ r hw=>hw.rely r) (λS w w' es hd hk hw=>?_) (λw b hw hb=>hw.liv.cells hb) (λw b hw hb=>qh7 hb hw.size) hSo (b:=qir 139) ?_ (by kernel_rfl) rfl (q4z (λ_ h=>h) (λ_ h=>h) (λ_ _ h=>h) hco) h.rel hc hwp (λa' u hr=>(hR a' u hr).1) ?_
 ·refine⟨⟨?_,?_⟩,λb hb=>(hk b hb.1).trans (hw.fz b hb),qh0 hw.size hd.size,hd.os.trans hw.os⟩
  ·obtain⟨st,sm,hg⟩:=hw.liv.1;exact⟨st,sm,(hk _ (o.jlt _ (by simp[jks]))).trans hg⟩
  ·obtain⟨W,h1,h2⟩:=hw.liv.2;exact⟨W,(hk _ (o.jlt _ (by simp[jks]))).trans h1,(hk _ (o.jlt _ (by simp[jks]))).trans h2⟩
 ·refine⟨_,(z6 139 (by decide)).trans qp5,qp5⟩
 ·intro ρ' a' tm' wq' w' S' hr hle hrel hcm;obtain⟨h1,h2,h3,h4⟩:=hR _ _ hr;exact hend S' ρ' a' tm' wq' w' hr hcm ⟨hrel,h.le.trans hle,h4,h2,h3⟩
end
end Ph4
end Go.Proofs.YtidgnkmjgioapaaGreat
end
section
namespace Go.Proofs.YtidgnkmjgioapaaGreat
open Go Go.RowKit Go.Conc Go.ConcN Go.ConcN.Gen Go.Conc.Lib Go.ConcR.Gen Go.Co Go.Sim
theorem qc7(z:Array qgB)(h:z.size=60):z=#[z[0]?.getD qgD,z[1]?.getD qgD,z[2]?.getD qgD,z[3]?.getD qgD,z[4]?.getD qgD,z[5]?.getD qgD,z[6]?.getD qgD,z[7]?.getD qgD,z[8]?.getD qgD,z[9]?.getD qgD,z[10]?.getD qgD,z[11]?.getD qgD,z[12]?.getD qgD,z[13]?.getD qgD,z[14]?.getD qgD,z[15]?.getD qgD,z[16]?.getD qgD,z[17]?.getD qgD,z[18]?.getD qgD,z[19]?.getD qgD,z[20]?.getD qgD,z[21]?.getD qgD,z[22]?.getD qgD,z[23]?.getD qgD,z[24]?.getD qgD,z[25]?.getD qgD,z[26]?.getD qgD,z[27]?.getD qgD,z[28]?.getD qgD,z[29]?.getD qgD,z[30]?.getD qgD,z[31]?.getD qgD,z[32]?.getD qgD,z[33]?.getD qgD,z[34]?.getD qgD,z[35]?.getD qgD,z[36]?.getD qgD,z[37]?.getD qgD,z[38]?.getD qgD,z[39]?.getD qgD,z[40]?.getD qgD,z[41]?.getD qgD,z[42]?.getD qgD,z[43]?.getD qgD,z[44]?.getD qgD,z[45]?.getD qgD,z[46]?.getD qgD,z[47]?.getD qgD,z[48]?.getD qgD,z[49]?.getD qgD,z[50]?.getD qgD,z[51]?.getD qgD,z[52]?.getD qgD,z[53]?.getD qgD,z[54]?.getD qgD,z[55]?.getD qgD,z[56]?.getD qgD,z[57]?.getD qgD,z[58]?.getD qgD,z[59]?.getD qgD]:=by
 obtain⟨y0,y1,y2,y3,y4,y5,y6,y7,y8,y9,y10,y11,y12,y13,y14,y15,y16,y17,y18,y19,y20,y21,y22,y23,y24,y25,y26,y27,y28,y29,y30,y31,y32,y33,y34,y35,y36,y37,y38,y39,y40,y41,y42,y43,y44,y45,y46,y47,y48,y49,y50,y51,y52,y53,y54,y55,y56,y57,y58,y59,rfl⟩:=K5 z h;rfl
theorem q4h{w0 wq w':qgx}{T:Nat->qj1->Nat}(h:w0.grownBy (wq.tp w0.tape) none)(hg:(wq.tp T).grownBy w' none):w0.grownBy (w'.tp w0.tape) none :=
 ⟨hg.os.trans h.os,rfl,hg.output.trans h.output,qh0 h.size hg.size,λk hk hn=>(hg.block k (qh7 hk h.size) hn).trans (h.block k hk hn)⟩
theorem qbg{w0 wq:qgx}(T:Nat->qj1->Nat)(h:w0.grownBy (wq.tp w0.tape) none):(w0.tp T).grownBy (wq.tp T) none:=⟨h.os,rfl,h.output,h.size,h.block⟩
theorem qg6{w0 w':qgx}{T:Nat->qj1->Nat}(h:(w0.tp T).grownBy w' none):w0.grownBy (w'.tp w0.tape) none:=⟨h.os,rfl,h.output,h.size,h.block⟩
theorem qbF{z z0:Array qgB}(hz:z.size=60)(hc:∀k,k<7->z[k]?=z0[k]?)(k:Nat)(hk:k<7):z0[k]?=some (z[k]?.getD qgD):=by
 rw[<- hc k hk,qhi (by omega)];rfl
namespace Ph4
section
variable{x:Ph4}(o:x.Ok){S:Bs}{w:qgx}{Z:Ren}{a:Act}{tm:Array qgB}{wq:qgx}
structure Base(x:Ph4)(i:Nat)(a:Act)(u:qgx):Prop where
 df:a.defers=[]
 sz:a.tmps.size=60
 cap:∀k,k<7->a.tmps[k]?=x.tmp0[k]?
 gr:x.w0.grownBy (u.tp x.w0.tape) none
 i7:a.tmps[7]?=some (.int .i64 i)
def Rows(x:Ph4)(g h:Nat->Int)(a:Act)(u:qgx):Prop:=∃B1 B2,a.tmps[8]?=some (.pointer (some ⟨B1,0,none⟩))/\a.tmps[9]?=some (.pointer (some ⟨B2,0,none⟩))/\u.heap[B1]?=some (qG g)/\u.heap[B2]?=some (qG h)/\B1≠B2/\x.w0.heap.size<=B1/\x.w0.heap.size<=B2
theorem Wk.df(h:x.Wk S Z a tm wq w):a.defers=[]:=by
 letI:JunkSet:=x.js
 exact h.rel.df
include o
theorem Ok.capv(h:x.Wk S Z a tm wq w)(k b:Nat)(hk:k<7)(e:x.tmp0[k]?=some (pt b)):a.tmps[k]?.getD qgD=.pointer (some b):=by
 rw[h.cap k hk,e];rfl
theorem Ok.w0s:x.w0.heap.size=x.W1.heap.size:=q72
theorem Ok.wp3(h:x.Wk S Z a tm wq w){i:Nat}(h7:a.tmps[7]?=some (.int .i64 i))(T:Nat->qj1->Nat) :wR3.wp Ya (yh λa u=>x.Base i a u/\x.Rows x.gn x.gx a u) a (wq.tp T):=by
 have a6:=h.df;obtain⟨z,d⟩:=a;have a6:d=[]:=a6;subst a6;have h4:z[4]?.getD qgD=.pointer (some x.Y):=o.capv h 4 x.Y (by omega) (by simp[tmp0,tm0]);have hc:=qbF h.sz h.cap;have hsz:z.size=60:=h.sz;have a7:z[7]?=some (.int .i64 i):=h7;have hg:=qbg T h.gr;have hP:qn 0 x.W1.heap.size (wq.tp T) (.slice x.yb x.ps.length x.yc) x.ps:=(show qn 0 x.W1.heap.size (x.w0.tp T) (.slice x.yb x.ps.length x.yc) x.ps from q73 (Q:=Ya) (jks:=x.jks) o.pars o.dj o.nyb).kept hg;have hlt:=o.ndlt o.nY;have b0:(wq.tp T).cell? x.Y=some (.slice x.yb x.ps.length x.yc):=hg.cl (xq o.nY (o.dj _ o.nY) o.hY rfl);have a9:(wq.tp T).cell? ⟨x.Y,1,none⟩=some (.int .i64 x.lim):=hg.cl (xq o.nY (o.dj _ o.nY) o.hY rfl);have hs:x.W1.heap.size<=(wq.tp T).heap.size:=by rw[<- o.w0s];exact hg.size
 generalize ht:(λk:Nat=>z[k]?.getD qgD)=t;have hz:z=#[t 0,t 1,t 2,t 3,t 4,t 5,t 6,t 7,t 8,t 9,t 10,t 11,t 12,t 13,t 14,t 15,t 16,t 17,t 18,t 19,t 20,t 21,t 22,t 23,t 24,t 25,t 26,t 27,t 28,t 29,t 30,t 31,t 32,t 33,t 34,t 35,t 36,t 37,t 38,t 39,t 40,t 41,t 42,t 43,t 44,t 45,t 46,t 47,t 48,t 49,t 50,t 51,t 52,t 53,t 54,t 55,t 56,t 57,t 58,t 59]:=by subst ht;exact qc7 z hsz
 have h4:t 4=.pointer (some x.Y):=by subst ht;exact h4
 have hc:∀k,k<7->x.tmp0[k]?=some (t k):=by subst ht;exact hc
 have a7:t 7=.int .i64 i:=by subst ht;show z[7]?.getD qgD=_;rw[a7];rfl
 rw[hz];refine qeD 0 x.W1.heap.size t (wq.tp T) _ x.ps x.lim x.Y x.yb x.yc h4 hP hs o.n5 b0 a9 (by omega) λB1 B2 w' _ _ _ _ a8 b7 b6 hne hb1 b9=>?_;have b8:x.w0.heap.size<=(wq.tp T).heap.size:=by rw[o.w0s];exact hs
 refine⟨⟨rfl,rfl,λk hk=>?_,q4h h.gr a8,by rw[<- a7];rfl⟩,B1,B2,rfl,rfl,b7,b6,hne,by omega,by omega⟩;rw[hc k hk];obtain rfl | rfl | rfl | rfl | rfl | rfl | rfl:k=0\/k=1\/k=2\/k=3\/k=4\/k=5\/k=6:=by omega
 all_goals first | rfl | (rw[h4];rfl)
theorem Ok.wp4(h:x.Wk S Z a tm wq w){i:Nat}(hi:i<x.N)(hb:x.Base i a wq)(hr:x.Rows x.gn x.gx a wq)(T:Nat->qj1->Nat) :wR4.wp Ya (yh λa u=>x.Base i a u/\x.Rows (ovr (x.c i) x.gn x.wl x.wl.length) (ovr (x.c i) x.gx x.wl x.wl.length) a u) a (wq.tp T):=by
 obtain⟨B1,B2,h8,h9,b7,b6,hne,hb1,a7⟩:=hr;have a6:=h.df;obtain⟨z,d⟩:=a;have a6:d=[]:=a6;subst a6;have hY:=o.capv h 4 x.Y (by omega) (by simp[tmp0,tm0]);have hA:=o.capv h 2 x.A (by omega) (by simp[tmp0,tm0]);have hV:=o.capv h 5 x.V (by omega) (by simp[tmp0,tm0]);have hB:=o.capv h 6 x.B (by omega) (by simp[tmp0,tm0]);have hc:=qbF h.sz h.cap;have hsz:z.size=60:=h.sz;have h7:z[7]?=some (.int .i64 i):=hb.i7;have h8:z[8]?=some (.pointer (some B1)):=h8;have h9:z[9]?=some (.pointer (some B2)):=h9;have hg:=qbg T h.gr;have hs:x.W1.heap.size<=(x.w0.tp T).heap.size:=qlF o.w0s.symm;generalize ht:(λk:Nat=>z[k]?.getD qgD)=t;have hz:z=#[t 0,t 1,t 2,t 3,t 4,t 5,t 6,t 7,t 8,t 9,t 10,t 11,t 12,t 13,t 14,t 15,t 16,t 17,t 18,t 19,t 20,t 21,t 22,t 23,t 24,t 25,t 26,t 27,t 28,t 29,t 30,t 31,t 32,t 33,t 34,t 35,t 36,t 37,t 38,t 39,t 40,t 41,t 42,t 43,t 44,t 45,t 46,t 47,t 48,t 49,t 50,t 51,t 52,t 53,t 54,t 55,t 56,t 57,t 58,t 59]:=by subst ht;exact qc7 z hsz
 have hY:t 4=.pointer (some x.Y):=by subst ht;exact hY
 have hA:t 2=.pointer (some x.A):=by subst ht;exact hA
 have hV:t 5=.pointer (some x.V):=by subst ht;exact hV
 have hB:t 6=.pointer (some x.B):=by subst ht;exact hB
 have hc:∀k,k<7->x.tmp0[k]?=some (t k):=by subst ht;exact hc
 have h7:t 7=.int .i64 i:=by subst ht;show z[7]?.getD qgD=_;rw[h7];rfl
 have h8:t 8=.pointer (some B1):=by subst ht;show z[8]?.getD qgD=_;rw[h8];rfl
 have h9:t 9=.pointer (some B2):=by subst ht;show z[9]?.getD qgD=_;rw[h9];rfl
 rw[hz];refine qeC 0 x.W1.heap.size t (x.w0.tp T) (wq.tp T) _ x.A x.V _ x.vv x.N i x.c x.wl B1 B2 x.gn x.gx hA (xq o.nA (o.dj _ o.nA) o.hA rfl) (qb2 (Q:=Ya) (jks:=x.jks) o.cas o.dj o.nab) hV (xq o.nV (o.dj _ o.nV) o.hV rfl) (q75 (Q:=Ya) (jks:=x.jks) o.ints o.dj o.nvv) h7 hi h8 h9 hg b7 b6 hne hb1 a7 hs o.hwl ?_;intro _ _ _ _ _ _ _ _ _ _ _ _ _ _ _ _ _ _ _ _ _ _ _ _ w' a8 b0 a9;refine⟨⟨rfl,rfl,λk hk=>?_,qg6 a8,rfl⟩,B1,B2,rfl,rfl,b0,a9,hne,hb1,a7⟩;rw[hc k hk];obtain rfl | rfl | rfl | rfl | rfl | rfl | rfl:k=0\/k=1\/k=2\/k=3\/k=4\/k=5\/k=6:=by omega
 all_goals first | rfl | (rw[hA];rfl) | (rw[hV];rfl)
theorem Ok.wp9(h:x.Wk S Z a tm wq w){i:Nat}(hi:i<x.N)(hb:x.Base i a wq)(hr:x.Rows (ovr (x.c i) x.gn x.wl x.wl.length) (ovr (x.c i) x.gx x.wl x.wl.length) a wq)(T:Nat->qj1->Nat) :wR9.wp Ya (yh λa u=>x.Base i a u/\a.tmps[58]?=some (.bool (x.bad i))) a (wq.tp T):=by
 obtain⟨B1,B2,h8,h9,a9,a8,hne,hb1,b0⟩:=hr;have a6:=h.df;obtain⟨z,d⟩:=a;have a6:d=[]:=a6;subst a6;have hY:=o.capv h 4 x.Y (by omega) (by simp[tmp0,tm0]);have hA:=o.capv h 2 x.A (by omega) (by simp[tmp0,tm0]);have hV:=o.capv h 5 x.V (by omega) (by simp[tmp0,tm0]);have hB:=o.capv h 6 x.B (by omega) (by simp[tmp0,tm0]);have hc:=qbF h.sz h.cap;have hsz:z.size=60:=h.sz;have h7:z[7]?=some (.int .i64 i):=hb.i7;have h8:z[8]?=some (.pointer (some B1)):=h8;have h9:z[9]?=some (.pointer (some B2)):=h9;have hg:=qbg T h.gr;have hs:x.W1.heap.size<=(x.w0.tp T).heap.size:=qlF o.w0s.symm;generalize ht:(λk:Nat=>z[k]?.getD qgD)=t;have hz:z=#[t 0,t 1,t 2,t 3,t 4,t 5,t 6,t 7,t 8,t 9,t 10,t 11,t 12,t 13,t 14,t 15,t 16,t 17,t 18,t 19,t 20,t 21,t 22,t 23,t 24,t 25,t 26,t 27,t 28,t 29,t 30,t 31,t 32,t 33,t 34,t 35,t 36,t 37,t 38,t 39,t 40,t 41,t 42,t 43,t 44,t 45,t 46,t 47,t 48,t 49,t 50,t 51,t 52,t 53,t 54,t 55,t 56,t 57,t 58,t 59]:=by subst ht;exact qc7 z hsz
 have hY:t 4=.pointer (some x.Y):=by subst ht;exact hY
 have hA:t 2=.pointer (some x.A):=by subst ht;exact hA
 have hV:t 5=.pointer (some x.V):=by subst ht;exact hV
 have hB:t 6=.pointer (some x.B):=by subst ht;exact hB
 have hc:∀k,k<7->x.tmp0[k]?=some (t k):=by subst ht;exact hc
 have h7:t 7=.int .i64 i:=by subst ht;show z[7]?.getD qgD=_;rw[h7];rfl
 have h8:t 8=.pointer (some B1):=by subst ht;show z[8]?.getD qgD=_;rw[h8];rfl
 have h9:t 9=.pointer (some B2):=by subst ht;show z[9]?.getD qgD=_;rw[h9];rfl
 rw[hz];have ob:∀(g:Nat->Int),(∀d,0<=g d/\g d<=1000)->∀d,0<=ovr (x.c i) g x.wl x.wl.length d/\ovr (x.c i) g x.wl x.wl.length d<=1000:=λg hg d=>by
  unfold ovr;split
  ·exact o.bc i d
  ·exact hg d
 refine qeB 0 x.W1.heap.size t (x.w0.tp T) (wq.tp T) _ x.Y x.B x.yb x.yc x.pv x.ps x.lim x.l B1 B2 _ _ hY (xq o.nY (o.dj _ o.nY) o.hY rfl) (xq o.nY (o.dj _ o.nY) o.hY rfl) (q73 (Q:=Ya) (jks:=x.jks) o.pars o.dj o.nyb) hB (xq o.nB (o.dj _ o.nB) o.hB rfl) (q75 (Q:=Ya) (jks:=x.jks) o.intp o.dj o.npv) h8 h9 hg a9 a8 hs o.n5 o.hl o.ll (ob _ o.bmn) (ob _ o.bmx) ?_;intro _ _ _ _ _ _ _ _ _ _ w' a7;refine⟨⟨rfl,rfl,λk hk=>?_,q4h h.gr a7,by rw[<- h7];rfl⟩,rfl⟩;rw[hc k hk];obtain rfl | rfl | rfl | rfl | rfl | rfl | rfl:k=0\/k=1\/k=2\/k=3\/k=4\/k=5\/k=6:=by omega
 all_goals first | rfl | (rw[hY];rfl) | (rw[hB];rfl)
theorem Ok.walk{Stop:Bs->qgC->qgx->Prop}(hSo:∀S g w off,Stop S g w->Stop S { g with offers:=off } w){i:Nat}(hi:i<x.N)(hc:x.Cm w)(h:x.Wk S Z a tm wq w)(h7:a.tmps[7]?=some (.int .i64 i))(hend:∀S' ρ' a' tm' wq' w',x.Cm w'->x.Wk S' ρ' a' tm' wq' w'->a'.tmps[58]?=some (.bool (x.bad i))->qk qh5 x.Fz x.cfg.K Stop S' (G ((qir 139).at ⟨tm',dn x.Wg⟩ (.code q2H::.inBlock 1::jp)) [bot]) w') :qk qh5 x.Fz x.cfg.K Stop S (G ((qir 139).at ⟨tm,dn x.Wg⟩ (.code wX::.inBlock 1::jp)) [bot]) w:=by
 rw[qfr];refine qk.seq kt ?_;refine o.piece hSo ck3 hc h (λT=>o.wp3 h h7 T) (λa' u hr=>⟨hr.1.df,hr.1.sz,hr.1.cap,hr.1.gr⟩) λS1 ρ1 a1 d6 wq1 w1 a7 c8 a9=>?_;refine qk.seq kt ?_;refine o.piece hSo ck4 c8 a9 (λT=>o.wp4 a9 hi a7.1 a7.2 T) (λa' u hr=>⟨hr.1.df,hr.1.sz,hr.1.cap,hr.1.gr⟩) λS2 ρ2 a2 d5 c9 w2 a6 c3 a8=>?_;refine qk.seq kt ?_;refine o.piece hSo ck9 c3 a8 (λT=>o.wp9 a8 hi a6.1 a6.2 T) (λa' u hr=>⟨hr.1.df,hr.1.sz,hr.1.cap,hr.1.gr⟩) λS3 ρ3 a3 b6 b0 w3 b7 b9 b8=>?_;exact hend S3 ρ3 a3 b6 b0 w3 b9 b8 b7.2
end
end Ph4
end Go.Proofs.YtidgnkmjgioapaaGreat
end
section
namespace Go.Proofs.YtidgnkmjgioapaaGreat
open Go Go.RowKit Go.Conc Go.ConcN Go.ConcN.Gen Go.Conc.Lib Go.ConcR.Gen Go.Co Go.Sim
namespace Ph4
section
variable{x:Ph4}
theorem zN(j:Nat)(ls:Nat->Lam):xz (j+1) ls=xz j ls+(if JY (ls j) then 1 else 0):=rfl
theorem q95{j i:Nat}{ls:Nat->Lam}{l:Lam}(h1:JY (ls i)=false)(h2:JY l=false):xz j (upd ls i l)=xz j ls:=by
 induction j with
 | zero=>rfl
 | succ j ih=>
  rw[zN,zN];rw[ih];by_cases e:j=i
  ·subst e;simp[upd,h1,h2]
  ·simp[upd,e]
theorem q4A{j i:Nat}{ls:Nat->Lam}{l:Lam}(h1:JY (ls i)=false):xz j ls<=xz j (upd ls i l):=by
 induction j with
 | zero=>exact qgA _
 | succ j ih=>
  rw[zN,zN];by_cases e:j=i
  ·subst e;simp[h1];omega
  ·simp[upd,e];omega
theorem qds{j i:Nat}{ls:Nat->Lam}(hi:i<j)(h1:JY (ls i)=false):xz j (upd ls i .fn)=xz j ls+1:=by
 induction j with
 | zero=>omega
 | succ j ih=>
  rw[zN,zN];by_cases e:j=i
  ·subst e;have:∀n,n<=j->xz n (upd ls j .fn)=xz n ls:=by
    intro n hn;induction n with
    | zero=>rfl
    | succ n ih2=>
     rw[zN,zN];rw[ih2 (by omega)];simp[upd,show n≠j by omega]
   rw[this j (qgA _),h1,show JY (upd ls j .fn j)=true from by simp[upd,JY]];simp
  ·rw[ih (by omega)];simp[upd,e];omega
theorem qbD{j:Nat}{ls:Nat->Lam}{l:Lam}(h:JY l=false):xz (j+1) (upd ls j l)=xz j ls:=by
 have:∀n,n<=j->xz n (upd ls j l)=xz n ls:=by
  intro n hn;induction n with
  | zero=>rfl
  | succ n ih2=>
   rw[zN,zN];rw[ih2 (by omega)];simp[upd,show n≠j by omega]
 rw[zN,this j (qgA _)];simp[upd,h]
theorem hJ0:∀W j ls,x.J W j ls->x.J W (j+1) (upd ls j .st):=by
 rintro W j ls ⟨h1,h2,h3,h4⟩;refine⟨by rw[qbD rfl];exact h1,h2,λhf i hi a6=>?_,λk hk hl=>?_⟩
 ·rcases h3 hf i hi a6 with h | ⟨k,hk,h⟩
  ·exact .inl h
  ·exact .inr ⟨k,by omega,by rw[show upd ls j .st k=ls k from by simp[upd,show k≠j by omega]];exact h⟩
 ·by_cases e:k=j
  ·subst e;simp[upd] at hl
  ·rw[show upd ls j .st k=ls k from by simp[upd,e]] at hl;exact h4 k (by omega) hl
theorem hJ:∀W j ls i γ' l',x.J W j ls->i<j->x.Tr W (ls i) γ' l'->x.J γ' j (upd ls i l'):=by
 rintro W j ls i γ' l' ⟨h1,h2,h3,h4⟩ hi ht;have hu:∀k,k≠i->upd ls i l' k=ls k:=λk hk=>by simp[upd,hk]
 have hs:upd ls i l' i=l':=by simp[upd]
 rcases ht with⟨hl,rfl,rfl⟩ | ⟨i0,hl,rfl,rfl⟩ | ⟨i0,hl,hb,hiN,rfl,rfl⟩
 ·have a7:JY (ls i)=false:=by rcases hl with h | ⟨i0,h,_⟩<;>rw[h]<;>rfl
  refine⟨?_,h2,λhf i' a8 a9=>?_,λk hk a6=>?_⟩
  ·by_cases hlt:W.1<x.N
   ·simp only[hlt,if_true];omega
   ·simp only[hlt,if_false];rw[qds hi a7];omega
  ·by_cases e:i'=W.1
   ·subst e;exact .inr ⟨i,hi,.inl (by rw[hs,if_pos a8])⟩
   ·rcases h3 hf i' a8 (by have:i'<W.1+1:=a9;omega) with h | ⟨k,hk,h⟩
    ·exact .inl h
    ·by_cases ek:k=i
     ·subst ek;rcases hl with hl | ⟨i0,hl,hb⟩
      ·rw[hl] at h;rcases h with h | h<;>cases h
      ·rw[hl] at h;rcases h with h | h
       ·cases h
       ·cases h;exact .inl hb
     ·exact .inr ⟨k,hk,by rw[hu k ek];exact h⟩
  ·by_cases ek:k=i
   ·subst ek;rw[hs] at a6;by_cases hlt:W.1<x.N
    ·rw[if_pos hlt] at a6;cases a6
    ·exact .inr (by show x.N<=W.1+1;omega)
   ·rw[hu k ek] at a6;exact(h4 k hk a6).imp id λh=>by show x.N<=W.1+1;omega
 ·have a7:JY (ls i)=false:=by rw[hl];rfl
  refine⟨qh0 h1 (by have:=q4A (j:=j) (l:=if γ'.2 then Lam.fn else .wk i0) a7;omega),h2,λhf i' a8 a9=>?_,λk hk a6=>?_⟩
  ·rcases h3 hf i' a8 a9 with h | ⟨k,hk,h⟩
   ·exact .inl h
   ·refine .inr ⟨k,hk,?_⟩;by_cases ek:k=i
    ·subst ek;rw[hl] at h;rcases h with h | h
     ·cases h;rw[hs,hf];exact .inr rfl
     ·cases h
    ·rw[hu k ek];exact h
  ·by_cases ek:k=i
   ·subst ek;rw[hs] at a6;cases hg:γ'.2 with
    | true=>exact .inl rfl
    | false=>rw[hg] at a6;cases a6
   ·rw[hu k ek] at a6;exact h4 k hk a6
 ·have a7:JY (ls i)=false:=by rw[hl];rfl
  exact⟨by rw[q95 a7 rfl];exact h1,λ_=>⟨i0,hiN,hb⟩,λhf=>(by cases hf),λk hk a6=>.inl rfl⟩
theorem hm:∀W l γ' l',x.Tr W l γ' l'->x.m γ'+nu l'<x.m W+nu l:=by
 rintro W l γ' l' ht;unfold m;rcases ht with⟨hl,rfl,rfl⟩ | ⟨i0,rfl,rfl,rfl⟩ | ⟨i0,rfl,hb,hiN,rfl,rfl⟩
 ·have hn:1<=nu l:=by rcases hl with h | ⟨i0,h,_⟩<;>rw[h]<;>simp[nu]
  show 3*(x.N - (W.1+1))+nu (if W.1<x.N then .ld W.1 else .fn)<3*(x.N - W.1)+nu l;by_cases hlt:W.1<x.N
  ·rw[if_pos hlt];show 3*(x.N - (W.1+1))+3<_;omega
  ·rw[if_neg hlt];show 3*(x.N - (W.1+1))+0<_;omega
 ·cases γ'.2<;>simp[nu]
 ·simp[nu]
theorem J.final{W:Nat × Bool}{ls:Nat->Lam}(h:x.J W (min 4 x.N) ls)(hf:∀i,i<min 4 x.N->fin (ls i)):W.2=true↔∃i,i<x.N/\x.bad i=true:=by
 obtain⟨h1,h2,h3,h4⟩:=h;refine⟨h2,λ⟨i,hi,hb⟩=>?_⟩;have hfn:∀k,k<min 4 x.N->ls k=.fn:=λk hk=>by
  have:=hf k hk;cases hl:ls k<;>rw[hl] at this<;>first | rfl | exact this.elim
 rcases h4 0 (by omega) (hfn 0 (by omega)) with h | h
 ·exact h
 ·cases hg:W.2 with
  | true=>rfl
  | false=>
   rcases h3 hg i hi (by omega) with h5 | ⟨k,hk,h5⟩
   ·rw[hb] at h5;cases h5
   ·rw[hfn k hk] at h5;rcases h5 with h5 | h5<;>cases h5
theorem hSo{l:Lam}:∀S g w off,x.cfg.Stop l S g w->x.cfg.Stop l S { g with offers:=off } w:=by
 rintro S g w off ⟨h1,h2⟩;refine⟨h1,?_⟩;rcases h2 with⟨hf,g',e,r⟩ | ⟨hf,hx⟩
 ·exact .inl ⟨hf,g',e,r⟩
 ·exact .inr ⟨hf,λW hd hj=>hx W hd hj⟩
variable(o:x.Ok){S:Bs}{w:qgx}{Z:Ren}{a:Act}{tm:Array qgB}{wq:qgx}
include o in
theorem Ok.toA{l:Lam}(hl:l=.st\/∃i,l=.wk i/\x.bad i=false)(hc:x.Cm w)(hk:x.Wk S Z a tm wq w) :qk qh5 x.Fz x.cfg.K (x.cfg.Stop l) S (G ((qir 139).at ⟨tm,dn x.Wg⟩ (.code wLB::jp)) [bot]) w :=
 qcG kt (o.t1 hk) λ_ h₁=>o.sync1 hl (hc.rely h₁) (hk.rely hc h₁)
theorem toE(hc:x.Cm w)(tm:Array qgB)(todo:List qkD):qk qh5 x.Fz x.cfg.K (x.cfg.Stop .fn) S (G { (qir 139).at ⟨tm,dn x.Wg⟩ todo with mode:=.returning } [bot]) w :=
 qcD kt hc.liv.1 (λ_ _ k=>k.1) (λ_ _ h=>⟨h.1,.inl ⟨trivial,h.2⟩⟩) tm todo
include o in
theorem Ok.hW:∀l S g w,x.WA l S g w->qk qh5 x.Fz x.cfg.K (x.cfg.Stop l) S g w:=by
 letI:JunkSet:=x.js
 rintro l S g w ⟨hc,h⟩;have a9:x.A<w.heap.size:=qh7 (o.ndlt o.nA) hc.size;cases l with
 | st=>
  rcases h with⟨rfl,hS⟩ | ⟨Z,a,tm,wq,hk,rfl⟩
  ·exact q5w kt (o.toA (.inl rfl) hc (o.born hc hS))
  ·exact qcE kt (o.toA (.inl rfl) hc (hk.set 59 (by omega) (kz _)))
 | ld i=>
  obtain⟨hi,Z,a,tm,wq,hk,rfl⟩:=h;refine qcF (av:=qgD) kt hk.tsz (o.t2 hk) (o.t3 hk) (λw₁ h₁=>o.cellA (hc.rely h₁)) (o.fz o.nA) a9 hi (by have:=o.hN;omega) (λw₁ h₁=>?_);have b0:=hk.rely hc h₁;have a6:=(((((((b0.set 12 (by omega) (.int .i64 (i+1))).set 13 (by omega) (.int .i64 i)).set 7 (by omega) (.int .i64 i)).set 14 (by omega) (.int .i64 i)).set 15 (by omega) (o.vrA.mono hk.le)).set 16 (by omega) (.int .i64 x.N)).set 17 (by omega) (.bool false)).set 18 (by omega) (.bool false);exact o.sync2 hi (hc.rely h₁) a6 (by simp[qhG,hk.sz]) (by simp[qhG,hk.sz])
 | wk i=>
  obtain⟨hi,Z,a,tm,wq,hk,h7,a8,rfl⟩:=h;refine qaq kt hk.tsz (hk.bool a8) ?_;have a6:=(hk.set 19 (by omega) (.bool false)).set 20 (by omega) (.bool false);refine o.walk hSo hi hc a6 (by simp[qhG,h7]) λS' ρ' a' tm' wq' w' a7 hk' h58=>?_;cases hb:x.bad i with
  | false=>
   rw[hb] at h58;exact qcC kt hk'.tsz (hk'.bool h58) (o.toA (.inr ⟨i,rfl,hb⟩) a7 hk')
  | true=>
   rw[hb] at h58;exact qcB kt (λw n=>⟨id,id⟩) hk'.tsz (o.t3 hk') (hk'.bool h58) λw₁ h₁=>o.sync3 hi hb (a7.rely h₁) (hk'.rely a7 h₁)
 | fn=>
  obtain⟨Z,a,tm,wq,hk,⟨i,h1,h2,rfl⟩ | ⟨a8,rfl⟩⟩:=h
  ·exact qar kt hk.tsz (o.t2 hk) (λw₁ h₁=>o.cellA (hc.rely h₁)) (o.fz o.nA) a9 h1 h2 (toE hc)
  ·exact qap kt hk.tsz (hk.bool a8) (toE hc)
include o in
theorem Ok.cfg(hAr:∀g w,x.AnchW g w->g.status=.running)(hAn:∀g w,x.AnchW g w->∃m,x.cfg.GM x.cfg.AtW1 m g w)(hFin:∀W ls g w,x.Fin g w->x.J W (min 4 x.N) ls->(∀i,i<min 4 x.N->fin (ls i))->x.DataAt W w->x.cfg.Ph w->E qh5 x.Post (flat x.clA) g w):x.cfg.Ok where
 hn:=by show min 4 x.N<2147483648;omega
 hlo:=o.hlo
 dat:=λW w w' h hd=>⟨(h _ (.inl rfl)).trans hd.1,(h _ (.inr rfl)).trans hd.2⟩
 fzc:=λb hb=>⟨hb.2,hb.1⟩
 syc:=λb hb=>by
  have:b∈x.jks:=by rcases hb with rfl | rfl<;>simp[jks]
  exact⟨o.sync b this,o.jlt b this⟩
 cla0:=o.cla0
 wgc:=⟨o.sync _ (by simp[Ph4.cfg,jks]),o.jlt _ (by simp[Ph4.cfg,jks]),λh=>h.elim o.ne2 o.ne3⟩
 hW:=o.hW
 hJ0:=hJ0
 hJ:=hJ
 hm:=hm
 hAr:=hAr
 hAn:=hAn
 hFin:=hFin
end
end Ph4
end Go.Proofs.YtidgnkmjgioapaaGreat
end
namespace Go.Proofs.YtidgnkmjgioapaaGreat
section
open Go Go.RowKit Go.Conc Go.ConcN Go.ConcN.Gen Go.Conc.Lib Go.ConcR.Gen Go.Co Go.Sim
theorem Qh{cl:Nat->Cl}{A o size:Nat}{wr:Bool}(h:cl A=.mine 0)(hs:A<size):EvG cl size 0 ⟨.cell ⟨A,o,none⟩,wr,Mode.plain == Mode.atomic⟩/\jq ⟨.cell ⟨A,o,none⟩,wr,Mode.plain == Mode.atomic⟩:=by
 refine⟨λx hx b hb=>?_,by simp[jq],by simp,by simp⟩;have hx':x=⟨.cell ⟨A,o,none⟩,wr,.plain⟩:=by
  have e:(Mode.plain == Mode.atomic)=false:=by decide
  rw[e] at hx;cases wr<;>(simp[qit,qjd] at hx;exact hx.symm)
 subst hx';simp only[Go.Co.blk,qhH] at hb;subst hb;exact⟨hs,.inl ⟨h,rfl⟩⟩
theorem QH{w:qgx}{b o d:Nat}{cs:Array qgB}{e:qh8}{f:Nat × Nat}{v:qgB}(h:w.heap[b]?=some (.cells cs e f))(hv:cs[o]?=some v):(w.at d).cell? ⟨b,o,none⟩=some v:=q8 (w:=w.at d) h hv
structure Nw(w w1:qgx)(B:Nat)(c:Array qgB)(e:qh8):Prop where
 eq:w1=w.alloc (.cells c e)
 at_:B=w.heap.size
section
variable{w w1:qgx}{B:Nat}{c:Array qgB}{e:qh8}
theorem nw(w:qgx)(c:Array qgB)(e:qh8):∃B w1,Nw w w1 B c e:=⟨_,_,⟨rfl,rfl⟩⟩
theorem Nw.size(h:Nw w w1 B c e):w1.heap.size=w.heap.size+1:=by rw[h.eq];simp
theorem Nw.le(h:Nw w w1 B c e):w.heap.size<=w1.heap.size:=by rw[h.size];omega
theorem Nw.lt(h:Nw w w1 B c e):B<w1.heap.size:=by rw[h.size,h.at_];omega
theorem Nw.new(h:Nw w w1 B c e):w1.heap[B]?=some (.cells c e (0,0)):=by
 rw[h.eq,h.at_];unfold World.alloc;exact Array.getElem?_push_size
theorem Nw.old(h:Nw w w1 B c e){b:Nat}(hb:b<w.heap.size):w1.heap[b]?=w.heap[b]?:=by
 rw[h.eq];simp only[World.alloc,ql1];rw[if_neg (by omega)]
theorem Nw.os(h:Nw w w1 B c e):w1.os=w.os:=by rw[h.eq];rfl
theorem Nw.output(h:Nw w w1 B c e):w1.output=w.output:=by rw[h.eq];rfl
end
theorem min4(N:Nat):(if(N:Int)<4 then(N:Int) else 4)=((min 4 N:Nat):Int):=by split<;>omega
theorem qf8(N:Nat)(w:qgx)(P:qh2):(qo6 #[3,3] 3 #[.int .i64 4,N]).events P w #[]=#[]:=by
 simp[go_sem,qo6,Builtin.min2]
theorem Km{P:qh2}{w:qgx}{es:Array qiq}{ad:qi5}{b:Option qi5}{l c:Nat}:(Go.store ad (.slice b l c)).events P w es=storedEv P w es ad (.slice b l c) .plain:=events_store P w es ad _ .plain rfl
structure At5(Q:qh2)[JunkSet](M:Nat)(w:qgx)(cl:Nat->Cl)(Z:Ren)(yb pb vb ab:Option qi5)(n yc pn pc vn vc N ac:Nat)(lim:Int)(Y B V A Nx Fd Wg:Nat)(O:Ren)(wq:qgx)(w5:qgx)(cl5:Nat->Cl):Prop where
 wr:WR Q M O wq w5
 ln:M<=O.length
 le:Le Z O
 fr:∀i j,BR O i j->BR Z i j\/w.heap.size<=j
 own:kQ cl5 O
 kp:yY M 0 w O w5
 c0:∀b,w5.heap.size<=b->cl5 b=.mine 0
 cold:∀b,b<w.heap.size->cl5 b=cl b
 hY:w5.heap[Y]?=some (.cells #[.slice yb n yc,lim] 91 (0,0))
 hB:w5.heap[B]?=some (.cells #[.slice pb pn pc] 29 (0,0))
 hV:w5.heap[V]?=some (.cells #[.slice vb vn vc] 29 (0,0))
 hA:w5.heap[A]?=some (.cells #[.slice ab N ac] 152 (0,0))
 hNx:w5.heap[Nx]?=some (.cells #[.int .i64 0] 158 (0,0))
 hFd:w5.heap[Fd]?=some (.cells #[.int .u32 0] 161 (0,0))
 hWg:w5.heap[Wg]?=some (.cells #[.int .u64 0,.int .u32 0] 166 (0,0))
 cY:cl5 Y=.mine 0
 cB:cl5 B=.mine 0
 cV:cl5 V=.mine 0
 cA:cl5 A=.mine 0
 cNx:cl5 Nx=.sync
 cFd:cl5 Fd=.sync
 cWg:cl5 Wg=.sync
 l1:w.heap.size<=Nx
 l2:Nx<Fd
 l3:Fd<Wg
noncomputable def x85:qje:=sqB (sqB (sqB (sqB (sqB (Tryz.f85.body.getD .skip)))))
noncomputable def Qb:qje:=sqB (sqA x85)
noncomputable def xJ:qje:=sqB x85
def qeo(yb pb vb ab:Option qi5)(n yc pn pc vn vc N ac:Nat)(lim:Int)(Y B V A Nx Fd Wg:Nat)(j:Int)(a9 a8 a7 a6:qgB):Array qgB :=
 #[.agg #[.slice yb n yc,lim],.slice pb pn pc,.slice vb vn vc,.pointer (some Y),.pointer (some B),.pointer (some V),.bool false,.pointer (some A),.pointer (some Nx),.pointer (some Fd),.pointer (some Wg),.agg #[.slice yb n yc,lim],.slice vb vn vc,.slice ab N ac,.slice ab N ac,N,.int .i64 (min 4 N:Nat),j,a9,a8,a7,a6,qgD,qgD]
theorem qfq[JunkSet]{M:Nat}(D:Two Ya qh5)(hok:JunkSet.okf 137){Rc:qgB->qgx->Prop}{yq vq:qgB}{wq:qgx}{Z:Ren}{Post:qgB->qgx->Prop}{cl:Nat->Cl}{cs:List qh4}{w:qgx}{yb pb vb:Option qi5}{n yc pn pc vn vc:Nat}{lim:Int}(hc0:∀b,w.heap.size<=b->cl b=.mine 0)(g9:M<=Z.length)(hw:WR Ya M Z wq w)(hG:Gl qh5 Z)(hown:kQ cl Z)(hy:VR Z yq (.agg #[.slice yb n yc,lim]))(hv:VR Z vq (.slice vb vn vc))(h8:∀i,¬ JunkSet.jk i)(h9:∀T,qhw Ya 137 #[yq,vq] (wq.tp T) λe u=>∃v,e=.returned v/\Rc v u)(m3:∀v u,Rc v u->∃b N c,v=.slice b N c)(hend:∀O wq1 v Y B V A Nx Fd Wg ab N ac w5 cl5,Rc v wq1->VR O v (.slice ab N ac)->At5 Ya M w cl Z yb pb vb ab n yc pn pc vn vc N ac lim Y B V A Nx Fd Wg O wq1 w5 cl5 ->EE qh5 Post cl5 (G ((qhl 85).at ⟨qeo yb pb vb ab n yc pn pc vn vc N ac lim Y B V A Nx Fd Wg 0 qgD undef undef undef,[]⟩ [.code Qb,.code xJ]) cs) w5) :EE qh5 Post cl (G ((qhl 85).at ⟨#[.agg #[.slice yb n yc,lim],.slice pb pn pc,.slice vb vn vc]++qi0 21 qgD,[]⟩ [.code (Tryz.f85.body.getD .skip)]) cs) w:=by
 simp only[Qb,xJ,x85,qeo] at hend;simp only[qky,qgH,sqA,sqB,inn] at hend ⊢;refine EE.seq ?_;refine EE.region ?_;simp only[qhn,qh3,qhc,qhk,qhf,qht,qi4];obtain⟨Y,w1,n1⟩:=nw w #[.slice yb n yc,lim] 91;refine EE.op (.pointer (some ⟨Y,0,none⟩)) w1 cl rfl rfl (by k_ne) (λd=>by rw[n1.eq,n1.at_];go_simp;exact⟨rfl,rfl⟩) (λd=>by simp[go_sem]) n1.le (λ_ _=>rfl) (λb hb=>hc0 b (by have:=n1.size;omega)) ?_;walk_nrm;obtain⟨B,w2,n2⟩:=nw w1 #[.slice pb pn pc] 29;refine EE.op (.pointer (some ⟨B,0,none⟩)) w2 cl rfl rfl (by k_ne) (λd=>by rw[n2.eq,n2.at_];go_simp;exact⟨rfl,rfl⟩) (λd=>by simp[go_sem]) n2.le (λ_ _=>rfl) (λb hb=>hc0 b (by have:=n1.size;have:=n2.size;omega)) ?_;walk_nrm;obtain⟨V,w3,n3⟩:=nw w2 #[.slice vb vn vc] 29;have d6:∀b,w3.heap.size<=b->cl b=.mine 0:=λb hb=>hc0 b (by have:=n1.size;have:=n2.size;have:=n3.size;omega);refine EE.op (.pointer (some ⟨V,0,none⟩)) w3 cl rfl rfl (by k_ne) (λd=>by rw[n3.eq,n3.at_];go_simp;exact⟨rfl,rfl⟩) (λd=>by simp[go_sem]) n3.le (λ_ _=>rfl) d6 ?_;walk_nrm;refine EE.value (.bool false) rfl rfl (by k_ne) (λ_=>by go_simp) (λ_=>by simp[go_sem]) ?_;walk_nrm;refine EE.region_end ?_;refine EE.seq ?_;refine EE.region ?_;simp only[qhn,qh3,qhc,qhk,qhf,qht,qi4];have hY:w3.heap[Y]?=some (.cells #[.slice yb n yc,lim] 91 (0,0)):=by
  rw[n3.old (qh7 n1.lt n2.le),n2.old n1.lt];exact n1.new
 have hB:w3.heap[B]?=some (.cells #[.slice pb pn pc] 29 (0,0)):=by
  rw[n3.old n2.lt];exact n2.new
 have hV:=n3.new;have cY:cl Y=.mine 0:=hc0 _ (by rw[n1.at_];omega);have cB:cl B=.mine 0:=hc0 _ (by rw[n2.at_];exact n1.le);have cV:cl V=.mine 0:=hc0 _ (by rw[n3.at_];exact qh0 n1.le n2.le);have sY:Y<w3.heap.size:=qh7 n1.lt (qh0 n2.le n3.le);have sB:B<w3.heap.size:=qh7 n2.lt n3.le;have sV:V<w3.heap.size:=n3.lt;have m7:∀d,(w3.at d).cell? ⟨Y,0,none⟩=some (.slice yb n yc):=λd=>QH hY rfl;have m6:∀d,(w3.at d).cell? ⟨Y,1,none⟩=some (.int .i64 lim):=λd=>QH hY rfl;have m9:∀d,(w3.at d).cell? ⟨V,0,none⟩=some (.slice vb vn vc):=λd=>QH hV rfl;refine EE.op (.agg #[.slice yb n yc,lim]) w3 cl rfl rfl (by k_ne) (λd=>by go_simp) (λd e he=>by
  simp[go_sem,m7,m6] at he;rcases he with rfl | rfl
  ·exact Qh cY sY
  ·exact Qh cY sY) (qgA _) (λ_ _=>rfl) d6 ?_
 walk_nrm;refine EE.op (.slice vb vn vc) w3 cl rfl rfl (by k_ne) (λd=>by go_simp) (λd e he=>by
  simp[go_sem,m9] at he;rw[he];exact Qh cV sV) (qgA _) (λ_ _=>rfl) d6 ?_
 walk_nrm;refine EE.enter rfl rfl (by k_ne) rfl Tryz.func137 (by kernel_rfl) rfl ?_;walk_nrm;have l9:WR Ya M Z wq w3:=hw.rely (qh0 n1.le (qh0 n2.le n3.le)) (by rw[n3.os,n2.os,n1.os]) (λi j hij _=>by
  have hj:=hw.lt i j hij;rw[n3.old (qh7 hj (qh0 n1.le n2.le)),n2.old (qh7 hj n1.le),n1.old hj]) (λi j _ h=>absurd h (h8 i))
 have nY:∀i,¬ BR Z i Y:=λi h=>by have:=hw.lt _ _ h;rw[n1.at_] at this;omega
 have nB:∀i,¬ BR Z i B:=λi h=>by have:=hw.lt _ _ h;have:=n1.le;rw[n2.at_] at *;omega
 have nV:∀i,¬ BR Z i V:=λi h=>by have:=hw.lt _ _ h;have:=n1.le;have:=n2.le;rw[n3.at_] at *;omega
 refine EE.call D (R:=Rc) hok (z6 137 (by decide)) (aq:=#[yq,vq]) (Z:=Z) (wq:=wq) ?_ g9 l9 hG h9 rfl rfl hown d6 ?_
 ·refine⟨rfl,λi x y hx hy'=>?_⟩;have hi:i<2:=by
   have:=(qgy.1 hx).1;simpa using this
  obtain rfl | rfl:i=0\/i=1:=by omega
  ·cases hx;cases hy';exact hy
  ·cases hx;cases hy';exact hv
 intro O wq1 v v' w4 k5 g8 d8 hle d5 d9 k0 b0;obtain⟨l5,N,ac,rfl⟩:=m3 _ _ k5;obtain⟨ab,rfl⟩:∃ab,v'=.slice ab N ac:=by cases g8<;>exact⟨_,rfl⟩
 have fY:∀i,¬ BR O i Y:=λi h=>(d5 i Y h).elim (nY i) (by omega);have fB:∀i,¬ BR O i B:=λi h=>(d5 i B h).elim (nB i) (by omega);have fV:∀i,¬ BR O i V:=λi h=>(d5 i V h).elim (nV i) (by omega);have m5:=(b0.old Y sY λi h=>absurd h (fY i)).trans hY;have n4:=(b0.old B sB λi h=>absurd h (fB i)).trans hB;have m8:=(b0.old V sV λi h=>absurd h (fV i)).trans hV;rw[qjg];walk_nrm;obtain⟨A,w5,n5⟩:=nw w4 #[.slice none 0 0] 152;have g5:∀b,w5.heap.size<=b->cl b=.mine 0:=λb hb=>k0 b (qh0 n5.le hb);refine EE.op (.pointer (some ⟨A,0,none⟩)) w5 cl rfl rfl (by k_ne) (λd=>by rw[n5.eq,n5.at_];go_simp;exact⟨rfl,rfl⟩) (λd=>by simp[go_sem]) n5.le (λ_ _=>rfl) g5 ?_;walk_nrm;have cA:cl A=.mine 0:=k0 _ (by rw[n5.at_];omega);have d7:=n5.new;have k9:∀d,(w5.at d).cell? ⟨A,0,none⟩=some (.slice none 0 0):=λd=>QH d7 rfl;have k6:∀d,(w5.at d).frozen? ⟨A,0,none⟩=false:=λd=>Qf (w:=w5.at d) d7;obtain⟨w6,c3⟩:∃w6,w6=w5.setCell ⟨A,0,none⟩ (.slice ab N ac):=⟨_,rfl⟩;have s6:w6.heap.size=w5.heap.size:=by rw[c3];simp
 refine EE.store w6 rfl rfl (by k_ne) (λd=>by rw[c3];clear c3;go_simp;rfl) (λd e he=>by
  simp[go_sem] at he;rw[Km] at he;simp[storedEv,k9,k6] at he;rw[he];exact Qh cA (by rw[s6];exact n5.lt)) s6 g5 ?_
 walk_nrm;have n6:w6.heap[A]?=some (.cells #[.slice ab N ac] 152 (0,0)):=by
  rw[c3,qon _ _ _ _ _ _ d7];simp
 have g7:∀b,b<w4.heap.size->w6.heap[b]?=w4.heap[b]?:=λb hb=>by
  rw[c3,qko _ _ _ _ (by rw[n5.at_];show b≠w4.heap.size;omega)];exact n5.old hb
 have g6:w6.os=w4.os:=by rw[c3];exact n5.os
 have l7:w6.output=w4.output:=by rw[c3];exact n5.output
 have m4:∀b,w6.heap.size<=b->cl b=.mine 0:=λb hb=>g5 b (by omega);have s4:w4.heap.size<=w6.heap.size:=by rw[s6];exact n5.le
 have l6:A<w6.heap.size:=by rw[s6];exact n5.lt
 clear c3 k9 k6 d7 s6;refine EE.region_end ?_;refine EE.seq ?_;refine EE.region ?_;simp only[qhn,qh3,qhc,qhk,qhf,qht,qi4];obtain⟨Nx,w7,n7⟩:=nw w6 #[.int .i64 0] 158;obtain⟨c7,e6⟩:∃c7:Nat->Cl,c7=λb=>if b=Nx then .sync else cl b:=⟨_,rfl⟩;have a7:∀b,b<w6.heap.size->c7 b=cl b:=λb hb=>by rw[e6];simp only;rw[if_neg (by rw[n7.at_];omega)]
 have b7:∀b,w7.heap.size<=b->c7 b=.mine 0:=λb hb=>by rw[e6];simp only;rw[if_neg (by have:=n7.lt;omega)];exact m4 b (qh0 n7.le hb)
 refine EE.op (.pointer (some ⟨Nx,0,none⟩)) w7 c7 rfl rfl (by k_ne) (λd=>by rw[n7.eq,n7.at_];go_simp;exact⟨rfl,rfl⟩) (λd=>by simp[go_sem]) n7.le a7 b7 ?_;walk_nrm;refine EE.region_end ?_;refine EE.seq ?_;refine EE.region ?_;simp only[qhn,qh3,qhc,qhk,qhf,qht,qi4];obtain⟨Fd,w8,n8⟩:=nw w7 #[.int .u32 0] 161;obtain⟨c8,e5⟩:∃c8:Nat->Cl,c8=λb=>if b=Fd then .sync else c7 b:=⟨_,rfl⟩;have a8:∀b,b<w7.heap.size->c8 b=c7 b:=λb hb=>by rw[e5];simp only;rw[if_neg (by rw[n8.at_];omega)]
 have b8:∀b,w8.heap.size<=b->c8 b=.mine 0:=λb hb=>by rw[e5];simp only;rw[if_neg (by have:=n8.lt;omega)];exact b7 b (qh0 n8.le hb)
 refine EE.op (.pointer (some ⟨Fd,0,none⟩)) w8 c8 rfl rfl (by k_ne) (λd=>by rw[n8.eq,n8.at_];go_simp;exact⟨rfl,rfl⟩) (λd=>by simp[go_sem]) n8.le a8 b8 ?_;walk_nrm;refine EE.region_end ?_;refine EE.seq ?_;refine EE.region ?_;simp only[qhn,qh3,qhc,qhk,qhf,qht,qi4];obtain⟨Wg,w9,n9⟩:=nw w8 #[.int .u64 0,.int .u32 0] 166;obtain⟨c9,e4⟩:∃c9:Nat->Cl,c9=λb=>if b=Wg then .sync else c8 b:=⟨_,rfl⟩;have a9:∀b,b<w8.heap.size->c9 b=c8 b:=λb hb=>by rw[e4];simp only;rw[if_neg (by rw[n9.at_];omega)]
 have b9:∀b,w9.heap.size<=b->c9 b=.mine 0:=λb hb=>by rw[e4];simp only;rw[if_neg (by have:=n9.lt;omega)];exact b8 b (qh0 n9.le hb)
 refine EE.op (.pointer (some ⟨Wg,0,none⟩)) w9 c9 rfl rfl (by k_ne) (λd=>by rw[n9.eq,n9.at_];go_simp;exact⟨rfl,rfl⟩) (λd=>by simp[go_sem]) n9.le a9 b9 ?_;walk_nrm;have e7:=n7.le;have e8:=n8.le;have e9:=n9.le;have b6:∀b,b<w4.heap.size->w9.heap[b]?=w4.heap[b]?:=λb hb=>by
  rw[n9.old (by omega),n8.old (by omega),n7.old (by omega)];exact g7 b hb
 have a6:∀b,b<w6.heap.size->c9 b=cl b:=λb hb=>by rw[a9 b (by omega),a8 b (by omega),a7 b hb]
 have k8:w9.heap[A]?=some (.cells #[.slice ab N ac] 152 (0,0)):=by
  rw[n9.old (by omega),n8.old (by omega),n7.old (by omega)];exact n6
 refine EE.region_end ?_;refine EE.seq ?_;refine EE.seq ?_;refine EE.region ?_;simp only[qhn,qh3,qhc,qhk,qhf,qht,qi4];have k7:∀d,(w9.at d).cell? ⟨A,0,none⟩=some (.slice ab N ac):=λd=>QH k8 rfl;have l4:c9 A=.mine 0:=(a6 A l6).trans cA;have l8:A<w9.heap.size:=by omega
 refine EE.op (.slice ab N ac) w9 c9 rfl rfl (by k_ne) (λd=>by go_simp) (λd e he=>by
  simp[go_sem,k7] at he;rw[he];exact Qh l4 l8) (qgA _) (λ_ _=>rfl) b9 ?_
 walk_nrm;refine EE.value (.int .i64 N) rfl rfl (by k_ne) (λ_=>by go_simp) (λ_=>by simp[go_sem]) ?_;walk_nrm;refine EE.value (.int .i64 (min 4 N:Nat)) rfl rfl (by k_ne) (λ_=>by go_simp;rw[min4]) (λ_=>by simp[go_sem];exact qf8 _ _ _) ?_;walk_nrm;refine EE.value (.int .i64 0) rfl rfl (by k_ne) (λ_=>by go_simp) (λ_=>by simp[go_sem]) ?_;walk_nrm;refine EE.region_end ?_;have f4:∀{b:Nat},b<w3.heap.size->b<w4.heap.size:=λh=>qh7 h b0.size;refine hend O wq1 (.slice l5 N ac) Y B V A Nx Fd Wg ab N ac w9 c9 k5 g8 ⟨?_,qh0 g9 hle.len,hle,λi j hij=>(d5 i j hij).imp id λh=>qh0 (qh0 n1.le (qh0 n2.le n3.le)) h,?_,⟨?_,?_,?_,?_,λ_ _ _ _=>qhx _,qhx _⟩,b9,?_,?_,?_,?_,k8,?_,?_,n9.new,?_,?_,?_,l4,?_,?_,?_,?_,?_,?_⟩
 ·-- wr
  refine d8.rely (by omega) ?_ (λi j hij _=>b6 j (d8.lt i j hij)) (λi j _ h=>absurd h (h8 i));rw[n9.os,n8.os,n7.os,g6]
 ·-- own
  intro i j hij;have hj:=d8.lt i j hij;rw[a6 j (by omega)];exact d9 i j hij
 ·-- keep
  intro j hj hn;have h1:w.heap.size<=w3.heap.size:=qh0 n1.le (qh0 n2.le n3.le);have h2:=b0.size;rw[b6 j (by omega),b0.old j (by omega) hn,n3.old (qh7 hj (qh0 n1.le n2.le)),n2.old (qh7 hj n1.le),n1.old hj]
 ·rw[n9.os,n8.os,n7.os,g6,b0.os,n3.os,n2.os,n1.os]
 ·rw[n9.output,n8.output,n7.output,l7,b0.output,n3.output,n2.output,n1.output]
 ·have h1:w.heap.size<=w3.heap.size:=qh0 n1.le (qh0 n2.le n3.le);have h2:=b0.size;omega
 ·intro b hb;have h1:w.heap.size<=w3.heap.size:=qh0 n1.le (qh0 n2.le n3.le);have h2:=b0.size;exact a6 b (by omega)
 ·exact(b6 Y (f4 sY)).trans m5
 ·exact(b6 B (f4 sB)).trans n4
 ·exact(b6 V (f4 sV)).trans m8
 ·have:=n7.lt;rw[n9.old (by omega),n8.old (by omega)];exact n7.new
 ·have:=n8.lt;rw[n9.old (by omega)];exact n8.new
 ·have:=f4 sY;rw[a6 Y (by omega)];exact cY
 ·have:=f4 sB;rw[a6 B (by omega)];exact cB
 ·have:=f4 sV;rw[a6 V (by omega)];exact cV
 ·have:=n7.lt;rw[a9 Nx (by omega),a8 Nx (by omega),e6];simp
 ·have:=n8.lt;rw[a9 Fd (by omega),e5];simp
 ·rw[e4];simp
 ·have h1:w.heap.size<=w3.heap.size:=qh0 n1.le (qh0 n2.le n3.le);have h2:=b0.size;rw[n7.at_];omega
 ·have:=n7.lt;rw[n8.at_];omega
 ·have:=n8.lt;rw[n9.at_];omega
end
section
open Go Go.RowKit Go.Conc Go.ConcN Go.ConcN.Gen Go.Conc.Lib Go.ConcR.Gen Go.Co Go.Sim
theorem qeA{U X:Type}{C:Cfg U X}{Stop:qgC->qgx->Prop}{a m:Nat}{g:qgC}{w:qgx}(h:qmc C.P true (LR C.ty C.Wg) qne (λg w=>C.GM Stop m g w) a g w):C.GM Stop (a+m) g w :=
 Cfg.GM.trans (Cfg.GM.of h λ_ _ h=>h)
noncomputable def yB:qje:=inn (inn Qb)
noncomputable def Ka:List qkD:=[.inLoop yB,.inBlock 0,.code xJ]
def q05(x:Ph4):qgB:=.func (.func 139) #[] (ju x.Wg x.Nx x.A x.Fd x.Y x.V x.B)
def tmx(x:Ph4)(j:Nat)(a b c d e:qgB):Array qgB :=
 #[.agg #[.slice x.yb x.ps.length x.yc,x.lim],x.pv,x.vv,.pointer (some x.Y),.pointer (some x.B),.pointer (some x.V),.bool false,.pointer (some x.A),.pointer (some x.Nx),.pointer (some x.Fd),.pointer (some x.Wg),.agg #[.slice x.yb x.ps.length x.yc,x.lim],x.vv,.slice x.ab x.N x.ac,.slice x.ab x.N x.ac,x.N,.int .i64 (min 4 x.N:Nat),j,a,b,c,d,e,qgD]
def z18(j:Nat):qgB:=if j=0 then qgD else .bool true
def z19(j:Nat):qgB:=if j=0 then qgD else .tuple #[]
def z20(x:Ph4)(j:Nat):qgB:=if j=0 then qgD else q05 x
def z21(j:Nat):qgB:=if j=0 then qgD else .int .i64 j
theorem qfo(j:Nat):z18 (j+1)=.bool true:=by simp[z18]
theorem qfn(j:Nat):z19 (j+1)=.tuple #[]:=by simp[z19]
theorem qfm(x:Ph4)(j:Nat):z20 x (j+1)=q05 x:=by simp[z20]
theorem qfl(j:Nat):z21 (j+1)=.int .i64 (j+1:Nat):=by simp[z21]
noncomputable def q4d(x:Ph4)(cs:List qh4)(j:Nat):qgC:=G ((qhl 85).at ⟨tmx x j (z18 j) (z19 j) (z20 x j) (z21 j) qgD,[]⟩ (.code yB::Ka)) cs
section
variable{x:Ph4}{cs:List qh4}
theorem q0u{Stop:qgC->qgx->Prop}{m:Nat}{j:Nat}(hj:j<4)(h:∀w,qjD 166 x.Wg w->x.cfg.GM Stop m (q4d x cs (j+1)) w)(w:qgx)(hF:qjD 166 x.Wg w) :x.cfg.GM Stop (7+m) (G ((qhl 85).at ⟨tmx x j (.bool true) (.tuple #[]) (q05 x) (z21 j) qgD,[]⟩ (.inRegion (qM (sqB (inn (sqA (sqB (sqB yB)))))) []::.inBlock 1::.code (sqB (sqB (sqB yB)))::Ka)) cs) w:=by
 refine qeA ?_;simp only[q4d,Ka,yB,Qb,xJ,x85,qky,qgH,sqA,sqB,inn,qM,tmx] at h ⊢;have a6:IntKind.i64.wrap ((j:Int)+1)=j+1:=qhp _ (by omega);u_c qgE qa hF;u_c stepG_inBlock qa hF;u_reg qa hF;u_op qa hF;u_op qa hF;u_c qgE qa hF;u_c stepG_inLoop qa hF;refine qj6 (λw₁ h₁=>?_);have e:=h w₁ (qa hF h₁);simp only[qfo,qfn,qfm,qfl,Int.natCast_add,Int.cast_ofNat_Int] at e;exact e
noncomputable def qdb(x:Ph4)(cs:List qh4)(j:Nat):qgC:=G ((qhl 85).at ⟨tmx x j (.bool true) (.tuple #[]) (z20 x j) (z21 j) qgD,[]⟩ (.inRegion (qM (sqA (inn (sqA (sqB (sqB yB)))))) []::.code (sqB (inn (sqA (sqB (sqB yB)))))::.inBlock 1::.code (sqB (sqB (sqB yB)))::Ka)) cs
theorem qa3{S:qgC->qgx->Prop}{N j:Nat}(hj:j<min 4 x.N)(h:∀w,qjD 166 x.Wg w->x.cfg.GM (x.cfg.AtGoS S) N (qdb x cs j) w)(w:qgx)(hF:qjD 166 x.Wg w):x.cfg.GM (x.cfg.AtKdS S) 24 (q4d x cs j) w:=by
 refine Cfg.add_spawn (N:=N) ?_;have hlt:decide ((j:Int)<((min 4 x.N:Nat):Int))=true:=decide_eq_true (by omega);simp only[qdb,q4d,Ka,yB,Qb,xJ,x85,qky,qgH,sqA,sqB,inn,qM,tmx] at h ⊢;u_c qha qa hF;u_reg qa hF;u_op qa hF;u_c qgE qa hF;u_c qha qa hF;u_cond true qa hF;u_c qin qa hF;u_c qha qa hF;u_c qn6 qa hF;u_c qha qa hF;u_reg qa hF;u_in qa hF;refine goes_call rfl rfl (by k_ne) rfl Yq.f_add (nm_add link) rfl ⟨by u_nil,?_⟩
 walk_nrmf addFn
 exact addPos (L:=link) Yq h _ hF
noncomputable def qf2(x:Ph4)(cs:List qh4)(j:Nat):qgC:=G ((qhl 85).at ⟨tmx x j (.bool true) (.tuple #[]) (q05 x) (z21 j) qgD,[]⟩ (.inRegion (qM (sqB (inn (sqA (sqB (sqB yB)))))) []::.inBlock 1::.code (sqB (sqB (sqB yB)))::Ka)) cs
theorem qcu{S:qgC->qgx->Prop}{j:Nat}(h:∀w,qjD 166 x.Wg w->S (qf2 x cs j) w)(w:qgx)(hF:qjD 166 x.Wg w):x.cfg.GM (x.cfg.AtGoS S) (3+0) (qdb x cs j) w:=by
 refine Cfg.GM.of (C:=x.cfg) (Stop:=x.cfg.AtGoS S) ?_ (λ_ _ h=>h);simp only[qf2,qdb,Ka,yB,Qb,xJ,x85,qky,qgH,sqA,sqB,inn,qM,tmx] at h ⊢;u_c qgE qa hF;u_reg qa hF;u_op qa hF;refine qj6 (λw₁ h₁=>?_);replace hF:=qa hF h₁;refine⟨rfl,_,born qh5 (q0h x.Wg x.Nx x.A x.Fd x.Y x.V x.B),?_,?_,h _ hF⟩
 ·have hs:=stepG_spawn (P:=qh5) (main:=true) (w:=w₁) (w':=w₁) (b:=qhl 85) (cs:=cs) (i:=1) (rest:=[]) (d:=q0h x.Wg x.Nx x.A x.Fd x.Y x.V x.B) (f:=.func 139) (c:=ju x.Wg x.Nx x.A x.Fd x.Y x.V x.B)
   (ops:=(qM (sqB (inn (sqA (sqB (sqB yB))))))) (o:=(qM (sqB (inn (sqA (sqB (sqB yB))))))[1]'(by simp only[yB,Qb,x85,qky,qgH,sqA,sqB,inn,qM];decide)) (a:=⟨tmx x j (.bool true) (.tuple #[]) (q05 x) (z21 j) qgD,[]⟩) (k:=.inBlock 1::.code (sqB (sqB (sqB yB)))::Ka) (by simp) (by simp only[yB,Qb,x85,qky,qgH,sqA,sqB,inn,qM];rfl) (by k_ne) (by
    simp only[yB,Qb,x85,qky,qgH,sqA,sqB,inn,qM,tmx,q05];go_simp;rfl) rfl
  refine Eq.trans ?_ (hs.trans ?_)
  ·simp only[Ka,yB,Qb,xJ,x85,qky,qgH,sqA,sqB,inn,qM,tmx,q05,ju,pt];rfl
  ·have he:listed qh5 (qhl 85).fn ⟨tmx x j (.bool true) (.tuple #[]) (q05 x) (z21 j) qgD,[]⟩ ((qM (sqB (inn (sqA (sqB (sqB yB))))))[1]'(by simp only[yB,Qb,x85,qky,qgH,sqA,sqB,inn,qM];decide)) w₁=#[]:=by
    unfold listed;have:((qk3 (Act.eval ⟨tmx x j (.bool true) (.tuple #[]) (q05 x) (z21 j) qgD,[]⟩) ((qM (sqB (inn (sqA (sqB (sqB yB))))))[1]'(by simp only[yB,Qb,x85,qky,qgH,sqA,sqB,inn,qM];decide))).events qh5 w₁ #[])=#[]:=by
     simp only[yB,Qb,x85,qky,qgH,sqA,sqB,inn,qM,tmx,q05];simp[go_sem]
    rw[this,seen_none]
   rw[he];simp only[Ka,yB,Qb,xJ,x85,qky,qgH,sqA,sqB,inn,qM,tmx];rfl
 ·rintro hp ⟨W,hd⟩;exact⟨⟨⟨hF,W,hd⟩,hp.fz,hp.size,hp.os⟩,.inl ⟨rfl,λ_ h=>h⟩⟩
noncomputable def q68(x:Ph4):qh4:=(qhl 85).at ⟨tmx x (min 4 x.N) (.bool false) (z19 (min 4 x.N)) (z20 x (min 4 x.N)) (z21 (min 4 x.N)) qgD,[]⟩ [.inRegion (qM (sqA xJ)) [0],.code (sqB xJ)]
noncomputable def qdj(x:Ph4):qh4:=(qhl 85).at ⟨tmx x (min 4 x.N) (.bool false) (z19 (min 4 x.N)) (z20 x (min 4 x.N)) (z21 (min 4 x.N)) (.tuple #[]),[]⟩ [.inRegion (qM (sqA xJ)) [],.code (sqB xJ)]
def F0(x:Ph4)(cs:List qh4)(g:qgC)(w:qgx):Prop:=g=G (qdj x) cs/\qjD 166 x.Wg w
theorem q0s(hA:x.AnchW=J3 link x.Wg (q68 x) cs)(w:qgx)(hF:qjD 166 x.Wg w):x.cfg.GM x.cfg.AtKd 13 (q4d x cs (min 4 x.N)) w:=by
 refine Cfg.kd_of ?_;have hlt:decide (((min 4 x.N:Nat):Int)<((min 4 x.N:Nat):Int))=false:=decide_eq_false (by omega);have a6:x.cfg.AnchW=J3 link x.Wg (q68 x) cs:=hA;rw[a6];generalize hn:min 4 x.N=n at hlt;simp only[q68,q4d,Ka,yB,Qb,xJ,x85,qky,qgH,sqA,sqB,inn,qM,tmx,hn];u_c qha qa hF;u_reg qa hF;u_op qa hF;u_c qgE qa hF;u_c qha qa hF;u_cond false qa hF;u_exit qa hF;u_c qha qa hF;u_reg qa hF;u_in qa hF;refine goes_call rfl rfl (by k_ne) rfl Yq.f_wait (nm_wait link) rfl ⟨by u_nil,?_⟩
 walk_nrmf waitFn
 exact Go.Co.waitStart (L:=link) Yq _ hF
theorem qey(hA:x.AnchW=J3 link x.Wg (q68 x) cs):∀r j,j+r=min 4 x.N->(∀w,qjD 166 x.Wg w->x.cfg.Spawns r (q4d x cs j) w)/\(0<j->∀w,qjD 166 x.Wg w->x.cfg.Spawns r (qf2 x cs (j - 1)) w):=by
 intro r;induction r with
 | zero=>
  intro j hj;have e:j=min 4 x.N:=by omega
  subst e;refine⟨λw hw=>⟨13,q0s hA w hw⟩,λhp w hw=>⟨7+13,?_⟩⟩;have e:min 4 x.N - 1+1=min 4 x.N:=by omega
  exact q0u (j:=min 4 x.N - 1) (by omega) (λw hw=>by rw[e];exact q0s hA w hw) w hw
 | succ r ih=>
  intro j hj;have hin:=(ih (j+1) (by omega)).2 (by omega);rw[Nat.add_sub_cancel] at hin;have hd:∀w,qjD 166 x.Wg w->x.cfg.GM (x.cfg.AtKdS (x.cfg.Spawns r)) 24 (q4d x cs j) w:=qa3 (N:=3+0) (by omega) (qcu hin);refine⟨λw hw=>⟨24,hd w hw⟩,λhp w hw=>⟨7+24,?_⟩⟩;obtain⟨k,rfl⟩:∃k,j=k+1:=⟨j - 1,by omega⟩;exact q0u (by omega) hd w hw
theorem qc8(hA:x.AnchW=J3 link x.Wg (q68 x) cs)(g:qgC)(w:qgx)(h:x.AnchW g w):g.status=.running:=by
 rw[hA] at h;obtain⟨T,rfl,_⟩:=h;rfl
theorem qdE(hA:x.AnchW=J3 link x.Wg (q68 x) cs)(a6:x.Fin=λg w=>qmc qh5 true (LR 166 x.Wg) qne (F0 x cs) 40 g w)(g:qgC)(w:qgx)(h:x.AnchW g w):∃m,x.cfg.GM x.cfg.AtW1 m g w:=by
 rw[hA] at h;have h1:=Go.Co.waitRound (L:=link) (Fin:=F0 x cs) Yq (b₀:=qhl 85) (a₀:=⟨tmx x (min 4 x.N) (.bool false) (z19 (min 4 x.N)) (z20 x (min 4 x.N)) (z21 (min 4 x.N)) qgD,[]⟩) (ops₀:=qM (sqA xJ)) (i₀:=0) (rest₀:=[]) (k₀:=[.code (sqB xJ)]) (cs:=cs) ?_ g w h
 ·refine⟨30,Cfg.GM.of h1 λg w hm=>?_⟩;refine Cfg.w1_of (C:=x.cfg) (F0:=F0 x cs) (λg w hg=>?_) ?_
  ·show x.Fin g w;rw[a6];exact hg
  ·have e:x.cfg.AnchW=x.AnchW:=rfl;rw[e,hA];exact hm
 ·intro w hw;refine⟨?_,hw⟩;simp only[qdj,xJ,x85,qky,qgH,sqA,sqB,inn,qM,tmx];rfl
end
end
end Go.Proofs.YtidgnkmjgioapaaGreat
section
namespace Go.Co
open Go.Conc Go.ConcN Go.Sim
section
variable{P:qh2}{Post:qgB->qgx->Prop}{cl:Nat->Cl}{w:qgx}
theorem EE.of_goes{R:qgx->qgx->Prop}(hR:∀w d,R w (w.at d)){Stop:qgC->qgx->Prop}(hS:∀g d,Stop g (w.at d)->EE P Post cl g w):∀{n:Nat} {g:qgC} {d:Nat},qmc P true R qne Stop n g (w.at d)->EE P Post cl g w:=by
 intro n;induction n with
 | zero=>exact λ{g d} h=>hS g d (h _ (hR _ _))
 | succ n ih=>
  intro g d h;rcases h with h | ⟨h0,h⟩
  ·exact hS g d (h _ (hR _ _))
  ·refine λd'=>E.step h0 λa6=>?_;obtain⟨g',w',es,e,⟨d1,d2⟩,hg⟩:=goes_elim (h (w.at a6) (hR (w.at d) a6));subst d1;subst d2;exact⟨g',w.at a6,#[],e,qgA _,by simp,ih hg a6⟩
theorem EE.enterB{b:qh4}{a:Act}{k:List qkD}{cs:List qh4}{ops:Array qiu}{i:Nat}{rest:List Nat}{o:qiu}{f:qib}{fn:Func}{c:qje}{args:Array qhE}{a6:Array qh8}(ho:ops[i]?=some o)(hw:qhv o (qj4 ops a.tmps)=true)(hk:b.kind≠.early)(hop:o.op=.call { callee:=.value (.func f),args,argTypes:=a6 })(hf:P.funcs[f]?=some fn)(hname:(fn.name == "runtime.NumGoroutine")=false)(hb:fn.body=some c)(h:EE P Post cl (G ((base f).at { tmps:=args.map a.eval++qi0 (fn.ntmps - (args.map a.eval).size) qgD,defers:=[] } [.code c]) (b.at a (.inRegion ops (i::rest)::k)::cs)) w) :EE P Post cl (G (b.at a (.inRegion ops (i::rest)::k)) cs) w :=
 EE.enter ho hw hk hop hf hname (by rw[hb];rfl) (by rw[enter_at _ hf hb];exact h)
theorem qbu{A o size:Nat}(h:cl A=.sync)(hs:A<size):EvG cl size 0 ⟨.cell ⟨A,o,none⟩,false,true⟩/\jq ⟨.cell ⟨A,o,none⟩,false,true⟩:=by
 refine⟨λx hx b hb=>?_,by simp[jq],by simp,by simp⟩;have hx':x=⟨.cell ⟨A,o,none⟩,false,.atomic⟩:=by simp[qit,qjd] at hx;exact hx.symm
 subst hx';simp only[blk,qhH] at hb;subst hb;exact⟨hs,.inr (.inr ⟨h,by simp,by simp⟩)⟩
end
end Go.Co
namespace Go.Proofs.YtidgnkmjgioapaaGreat
open Go Go.RowKit Go.Conc Go.ConcN Go.ConcN.Gen Go.Conc.Lib Go.ConcR.Gen Go.Co Go.Sim
section
variable{x:Ph4}{cs:List qh4}
theorem after{Post:qgB->qgx->Prop}{cl:Nat->Cl}{w:qgx}{v:Bool}(hFd:w.heap[x.Fd]?=some (.cells #[.int .u32 (if v then 1 else 0)] 161 (0,0)))(hcl:cl x.Fd=.sync)(hc0:∀b,w.heap.size<=b->cl b=.mine 0)(hend:∀t todo,t.getD 6 qgD=.bool v->EE qh5 Post cl (G { (qhl 85).at ⟨t,[]⟩ todo with mode:=.returning } cs) w):EE qh5 Post cl (G (qdj x) cs) w:=by
 have hsz:x.Fd<w.heap.size:=(qgy.1 hFd).1;have hcell:∀d,(w.at d).cell? x.Fd=some (.int .u32 (if v then 1 else 0)):=λd=>QH hFd rfl;generalize hn:min 4 x.N=n;simp only[qdj,xJ,x85,qky,qgH,sqA,sqB,inn,qM,tmx,hn];refine EE.region_end ?_;refine EE.seq ?_;refine EE.region ?_;simp only[qhn,qh3,qhc,qhk,qhf,qht,qi4];refine EE.enterB rfl rfl (by k_ne) rfl qnk (by kernel_rfl) rfl ?_
 walk_nrmf qn8
 refine EE.seq ?_;refine EE.region ?_;simp only[qhn,qh3,qhc,qhk,qhf,qht,qi4];refine EE.value (.bool false) rfl rfl (by k_ne) (λ_=>by go_simp) (λ_=>by simp[go_sem]) ?_;walk_nrm;refine EE.region_end ?_;refine EE.seq ?_;refine EE.region ?_;simp only[qhn,qh3,qhc,qhk,qhf,qht,qi4];refine EE.value (.pointer (some x.Fd)) rfl rfl (by k_ne) (λ_=>by go_simp) (λ_=>by simp[go_sem]) ?_;walk_nrm;refine EE.value (.pointer (some x.Fd)) rfl rfl (by k_ne) (λ_=>by go_simp) (λ_=>by simp[go_sem]) ?_;walk_nrm;refine EE.value (.pointer (some x.Fd)) rfl rfl (by k_ne) (λ_=>by go_simp) (λ_=>by simp[go_sem]) ?_;walk_nrm;refine EE.raw w cl rfl (λd=>⟨_,qlp rfl rfl (by k_ne) rfl Tryz.func180 (by kernel_rfl) (by kernel_rfl) (by kernel_rfl) .u32 (by kernel_rfl) rfl (hcell d),?_⟩) (qgA _) (λ_ _=>rfl) hc0 ?_
 ·intro e he;simp at he;subst he;exact qbu hcl hsz
 walk_nrm;clear hcell hFd;cases v with
 | false=>
  simp only[if_false,qhy];refine EE.value (.bool false) rfl rfl (by k_ne) (λ_=>by go_simp) (λ_=>by simp[go_sem]) ?_;walk_nrm;refine EE.value (.bool false) rfl rfl (by k_ne) (λ_=>by go_simp) (λ_=>by simp[go_sem]) ?_;walk_nrm;refine EE.region_end ?_;refine EE.retS ?_;refine EE.leave1 rfl rfl qnk rfl ?_;walk_nrm;refine EE.value (.bool false) rfl rfl (by k_ne) (λ_=>by go_simp) (λ_=>by simp[go_sem]) ?_;walk_nrm;refine EE.region_end ?_;refine EE.retS ?_;exact hend _ _ rfl
 | true=>
  simp only[if_true];refine EE.value (.bool true) rfl rfl (by k_ne) (λ_=>by go_simp) (λ_=>by simp[go_sem]) ?_;walk_nrm;refine EE.value (.bool true) rfl rfl (by k_ne) (λ_=>by go_simp) (λ_=>by simp[go_sem]) ?_;walk_nrm;refine EE.region_end ?_;refine EE.retS ?_;refine EE.leave1 rfl rfl qnk rfl ?_;walk_nrm;refine EE.value (.bool true) rfl rfl (by k_ne) (λ_=>by go_simp) (λ_=>by simp[go_sem]) ?_;walk_nrm;refine EE.region_end ?_;refine EE.retS ?_;exact hend _ _ rfl
end
end Go.Proofs.YtidgnkmjgioapaaGreat
end
section
namespace Go.Proofs.YtidgnkmjgioapaaGreat
open Go Go.RowKit Go.Conc Go.ConcN Go.ConcN.Gen Go.Conc.Lib Go.ConcR.Gen Go.Co Go.Sim
namespace Ph4
noncomputable def on(x:Ph4)(cs:List qh4):Ph4:={ x with Fin:=λg w=>qmc qh5 true (LR 166 x.Wg) qne (F0 x cs) 40 g w,AnchW:=J3 link x.Wg (q68 x) cs }
theorem qg2{ty:qh8}{Wg:Nat}(w:qgx)(d:Nat):LR ty Wg w (w.at d):=λ⟨st,sm,h⟩=>⟨st,sm,h⟩
theorem all{x:Ph4}{cs:List qh4}(o:(x.on cs).Ok)(hend:∀t todo w (v:Bool),(v=true↔∃i,i<x.N/\x.bad i=true)->(x.on cs).cfg.Ph w->t.getD 6 qgD=.bool v->EE qh5 x.Post (flat x.clA) (G { (qhl 85).at ⟨t,[]⟩ todo with mode:=.returning } cs) w):(x.on cs).cfg.Ok :=
 o.cfg (qc8 (cs:=cs) rfl) (qdE (cs:=cs) rfl rfl) λW ls g w hF hJ hf hd hp=>by
  have a6:qmc qh5 true (LR 166 x.Wg) qne (F0 x cs) 40 g (w.at w.drawn):=hF;refine(EE.of_goes (λw d=>qg2 w d) (λg d hg=>?_) a6) w.drawn;obtain⟨rfl,_⟩:=hg;refine after (v:=W.2) hd.2 ?_ (λb hb=>?_) λt todo ht=>hend t todo w W.2 (J.final hJ hf) hp ht
  ·have:=o.sync x.Fd (by simp[jks,on]);unfold flat;rw[show(x.on cs).clA x.Fd=.sync from this]
  ·have:=o.cla0 b (qh0 hp.size hb);unfold flat;rw[show(x.on cs).clA b=.mine 0 from this]
end Ph4
def q25(n lo:Nat)(cl:Nat->Cl)(b:Nat):Cl:=match cl b with | .mine 0=>if b<n then .ro lo else .mine 0 | c=>c
theorem Yg{n lo b:Nat}{cl:Nat->Cl}(h:cl b=.mine 0)(hb:b<n):q25 n lo cl b=.ro lo:=by unfold q25;rw[h];simp[hb]
theorem YN{n lo b:Nat}{cl:Nat->Cl}(h:cl b=.mine 0)(hb:n<=b):q25 n lo cl b=.mine 0:=by unfold q25;rw[h];simp;omega
theorem Y9{n lo b:Nat}{cl:Nat->Cl}(h:cl b≠.mine 0):q25 n lo cl b=cl b:=by
 unfold q25;cases hc:cl b with
 | mine g=>
  cases g with
  | zero=>exact absurd hc h
  | succ g=>rfl
 | ro lo'=>rfl
 | sync=>rfl
def xj(Y V B A:Nat)(bl:List Nat):List Nat:=0::Y::V::B::A::bl
theorem qfB{M:Nat}{Post:qgB->qgx->Prop}[JunkSet]{w0:qgx}{cl0:Nat->Cl}{ρ0:Ren}{yb pb vb ab:Option qi5}{ps:List Par}{yc pn pc vn vc N ac:Nat}{lim:Int}{Y B V A Nx Fd Wg:Nat}{O:Ren}{wq:qgx}{w:qgx}{cl:Nat->Cl}{cs:List qh4}{l wl:List Int}{c:Nat->Nat->Int}{bl:List Nat}(h5:At5 Ya M w0 cl0 ρ0 yb pb vb ab ps.length yc pn pc vn vc N ac lim Y B V A Nx Fd Wg O wq w cl)(c8:∀b∈bl,cl b=.mine 0/\∃cs e f,w.heap[b]?=some (.cells cs e f)/\∀(i:Nat) v,cs[i]?=some v->∃k m,v=.int k m)(h0:∃cs e f,w.heap[0]?=some (.cells cs e f)/\∀(i:Nat) v,cs[i]?=some v->∃k m,v=.int k m)(hc0:cl 0=.mine 0)(b7:∀a,yb=some a->a.block∈bl)(b9:∀a,pb=some a->a.block∈bl)(b8:∀a,vb=some a->a.block∈bl)(hab:∀a,ab=some a->a.block∈bl)(pars:qn 0 w.heap.size w (.slice yb ps.length yc) ps)(ints:qf 0 w.heap.size w (.slice vb vn vc) wl)(intp:qf 0 w.heap.size w (.slice pb pn pc) l)(cas:ve 0 w.heap.size w (.slice ab N ac) N c)(n5:ps.length<=5)(bmn:∀i,0<=pre Par.mn ps ps.length i/\pre Par.mn ps ps.length i<=1000)(bmx:∀i,0<=pre Par.mx ps ps.length i/\pre Par.mx ps ps.length i<=1000)(bc:∀i d,0<=c i d/\c i d<=1000)(hl:∀y∈l,0<=y/\y<ps.length)(ll:l.length<=1000)(hwl:∀y∈wl,0<=y/\y<5)(hN:N<=900000)(hend:∀t todo w6 cl6 (v:Bool),(v=true↔∃i,i<N/\(qz ps (ovr (c i) (pre Par.mn ps ps.length) wl wl.length) l && !qz ps (ovr (c i) (pre Par.mx ps ps.length) wl wl.length) l)=true)->(∀b,b<w.heap.size->cl b=.mine 0->w6.heap[b]?=w.heap[b]?)->w.heap.size<=w6.heap.size->w6.os=w.os->w6.output=w.output ->(∀b,cl b=.mine 0->cl6 b=.mine 0)->(∀b,w6.heap.size<=b->cl6 b=.mine 0)->t.getD 6 qgD=.bool v->EE qh5 Post cl6 (G { (qhl 85).at ⟨t,[]⟩ todo with mode:=.returning } cs) w6) :EE qh5 Post cl (G ((qhl 85).at ⟨qeo yb pb vb ab ps.length yc pn pc vn vc N ac lim Y B V A Nx Fd Wg 0 qgD undef undef undef,[]⟩ [.code Qb,.code xJ]) cs) w:=by
 have e1:Qb=.block 0 (.loop yB):=by kernel_rfl
 rw[e1];refine EE.block ?_;refine EE.loop ?_;intro d;refine E.crowd (U:=Nat × Bool) (X:=Lam) λlo hlo=>?_
 let x:Ph4:={ W1:=w.at d,clA:=q25 w.heap.size lo cl,lo:=lo,Wg:=Wg,Nx:=Nx,A:=A,Fd:=Fd,Y:=Y,V:=V,B:=B,ps:=ps,lim:=lim,l:=l,wl:=wl,N:=N,c:=c,yb:=yb,yc:=yc,ab:=ab,ac:=ac,pv:=.slice pb pn pc,vv:=.slice vb vn vc,nds:=xj Y V B A bl,Post:=Post,Fin:=λ_ _=>False,AnchW:=λ_ _=>False }
 have qx:∀{b:Nat} {o:Obj},w.heap[b]?=some o->b<w.heap.size:=λh=>(qgy.1 h).1;have b0:∀b∈xj Y V B A bl,cl b=.mine 0/\b<w.heap.size:=by
  intro b hb;simp only[xj,qix] at hb;obtain⟨d5,e0,f0,h0,c3⟩:=h0;rcases hb with rfl | rfl | rfl | rfl | rfl | hb
  ·exact⟨hc0,qx h0⟩
  ·exact⟨h5.cY,qx h5.hY⟩
  ·exact⟨h5.cV,qx h5.hV⟩
  ·exact⟨h5.cB,qx h5.hB⟩
  ·exact⟨h5.cA,qx h5.hA⟩
  ·obtain⟨k1,cs,e,f,k2,_⟩:=c8 b hb;exact⟨k1,qx k2⟩
 have c9:∀b∈xj Y V B A bl,x.clA b=.ro lo:=λb hb=>Yg (b0 b hb).1 (b0 b hb).2;have b6:∀b∈[Wg,Nx,Fd],cl b=.sync/\b<w.heap.size:=by
  intro b hb;simp only[qix,qiF,or_false] at hb;rcases hb with rfl | rfl | rfl
  ·exact⟨h5.cWg,qx h5.hWg⟩
  ·exact⟨h5.cNx,qx h5.hNx⟩
  ·exact⟨h5.cFd,qx h5.hFd⟩
 have a6:∀{a:qi5},a.block∈bl->a.block∈xj Y V B A bl:=λh=>by simp[xj,h]
 have d6:∀b∈xj Y V B A bl,BR x.r0 b b:=λb hb=>JP.2 ⟨(b0 b hb).2,rfl,.inl hb⟩;have a8:∀(q:Option qi5) (m k:Nat),(∀a,q=some a->a.block∈bl)->@VR x.js x.r0 (.slice q m k) (.slice q m k):=λq m k hq=>by
  cases q with
  | none=>exact @VR.sliceNil x.js _ m k
  | some a=>exact @VR.slice x.js _ _ _ a.off a.spot m k (d6 _ (a6 (hq a rfl)))
 have a9:∀(v:qgB),@VR x.js x.r0 v v->∀(i:Nat) (u:qgB),(#[v]:Array qgB)[i]?=some u->@VR x.js x.r0 u u:=λv hv i u hu=>by
  cases i with
  | zero=>simp at hu;rw[<- hu];exact hv
  | succ i=>simp at hu
 have o:(x.on cs).Ok:={
  hlo:=hlo
  hY:=h5.hY
  hV:=h5.hV
  hB:=h5.hB
  hA:=h5.hA
  pars:=pars
  ints:=ints
  intp:=intp
  cas:=cas
  n5:=n5
  bmn:=bmn
  bmx:=bmx
  bc:=bc
  hl:=hl
  ll:=ll
  hwl:=hwl
  hN:=hN
  jlt:=λb hb=>(b6 b hb).2
  ne1:=by have:=h5.l2;show Nx≠Fd;omega
  ne2:=by have:=h5.l2;have:=h5.l3;show Wg≠Nx;omega
  ne3:=by have:=h5.l3;show Wg≠Fd;omega
  sync:=λb hb=>by
   have h1:=(b6 b hb).1;exact(Y9 (by rw[h1];simp)).trans h1
  nro:=c9
  nok:=by
   intro b hb;have hb':b∈xj Y V B A bl:=hb;simp only[xj,qix] at hb';obtain⟨d5,e0,f0,h0,c3⟩:=h0;rcases hb' with rfl | rfl | rfl | rfl | rfl | hb'
   ·exact⟨_,_,_,h0,λi v hv=>by obtain⟨k,m,rfl⟩:=c3 i v hv;exact @VR.int (x.on cs).js _ k m⟩
   ·refine⟨_,_,_,h5.hY,λi v hv=>?_⟩;have hi:i=0\/i=1:=by
     have:=(qgy.1 hv).1;simp at this;omega
    rcases hi with rfl | rfl
    ·simp at hv;rw[<- hv];exact a8 _ _ _ b7
    ·simp at hv;rw[<- hv];exact @VR.int x.js _ _ _
   ·exact⟨_,_,_,h5.hV,a9 _ (a8 _ _ _ b8)⟩
   ·exact⟨_,_,_,h5.hB,a9 _ (a8 _ _ _ b9)⟩
   ·exact⟨_,_,_,h5.hA,a9 _ (a8 _ _ _ hab)⟩
   ·obtain⟨k1,d7,e,f,k2,k3⟩:=c8 b hb';refine⟨_,_,_,k2,λi v hv=>?_⟩;obtain⟨k,m,rfl⟩:=k3 i v hv;exact @VR.int x.js _ _ _
  n0:=by show 0∈xj Y V B A bl;simp[xj]
  nY:=by show Y∈xj Y V B A bl;simp[xj]
  nV:=by show V∈xj Y V B A bl;simp[xj]
  nB:=by show B∈xj Y V B A bl;simp[xj]
  nA:=by show A∈xj Y V B A bl;simp[xj]
  nyb:=λq oo n' c' e _=>by cases e;exact a6 (a:=⟨q,oo,none⟩) (b7 _ rfl)
  nvv:=λq oo n' c' e _=>by cases e;exact a6 (a:=⟨q,oo,none⟩) (b8 _ rfl)
  npv:=λq oo n' c' e _=>by cases e;exact a6 (a:=⟨q,oo,none⟩) (b9 _ rfl)
  nab:=λq oo n' c' e _=>by cases e;exact a6 (a:=⟨q,oo,none⟩) (hab _ rfl)
  cla0:=λb hb=>by
   have hb':w.heap.size<=b:=hb;exact YN (h5.c0 b hb') hb' }
 refine⟨(x.on cs).cfg,rfl,rfl,rfl,rfl,Ph4.all o ?_,λb hb=>?_,?_,h5.hWg,(0,false),λ_=>.st,⟨h5.hNx,h5.hFd⟩,?_⟩
 ·intro t todo w6 v hv hp ht;refine hend t todo w6 _ v hv (λb hb hc=>?_) hp.size hp.os hp.output (λb hb=>?_) (λb hb=>?_) ht
  ·exact hp.fz b ⟨hb,Yg hc hb⟩
  ·show flat (q25 w.heap.size lo cl) b=_;unfold flat;rcases qiC b w.heap.size with a7 | a7
   ·rw[Yg hb a7]
   ·rw[YN hb a7]
  ·show flat (q25 w.heap.size lo cl) b=_;have a7:w.heap.size<=b:=qh0 hp.size hb;unfold flat;rw[YN (h5.c0 b a7) a7]
 ·have hb':b<w.heap.size:=hb;cases hc:cl b with
  | mine g=>
   cases g with
   | zero=>exact .inr ⟨rfl,Yg hc hb'⟩
   | succ g=>exact .inl ((Y9 (by rw[hc];simp)).trans hc)
  | ro lo'=>exact .inl ((Y9 (by rw[hc];simp)).trans hc)
  | sync=>exact .inl ((Y9 (by rw[hc];simp)).trans hc)
 ·have hsp:=(qey (x:=x.on cs) (cs:=cs) rfl (min 4 N) 0 (by show 0+min 4 N=min 4 N;omega)).1 (w.at d) ⟨_,_,h5.hWg⟩;exact hsp
 ·exact⟨qhx _,λh=>(by cases h),λ_ i _ h=>absurd h (Nat.not_lt_zero i),λk hk=>absurd hk (Nat.not_lt_zero k)⟩
end Go.Proofs.YtidgnkmjgioapaaGreat
end
namespace Go.Proofs.YtidgnkmjgioapaaGreat
section
open Go Go.RowKit Go.Conc Go.ConcN Go.ConcN.Gen Go.Conc.Lib Go.ConcR.Gen Go.Co Go.Sim
def qT(w:qgx)(B:Nat):Prop:=∃cs e f,w.heap[B]?=some (.cells cs e f)/\∀(i:Nat) v,cs[i]?=some v->∃k m,v=.int k m
def qQ(w:qgx)(v:qgB):Prop:=∀ad n c,v=.slice (some ad) n c->qT w ad.block
section
variable[JunkSet]{Q:qh2}{Z:Ren}{wq w:qgx}{M:Nat}
theorem qd9{cs cs':Array qgB}(h:AsR Z cs cs')(hi:∀(i:Nat) v,cs[i]?=some v->∃k m,v=.int k m):cs'=cs:=by
 refine Array.ext h.1.symm λi h1 h2=>?_;obtain⟨k,m,e⟩:=hi i cs[i] (qhi h2);have hv:=h.2 i _ _ (qhi h2) (qhi h1);rw[e] at hv ⊢;generalize cs'[i]=y at hv;cases hv;rfl
theorem q9t(hw:WR Q M Z wq w)(a6:∀i,¬ JunkSet.jk i){i j:Nat}(hij:BR Z i j){cs:Array qgB}{e:qh8}{f:Nat × Nat}(h:wq.heap[i]?=some (.cells cs e f))(hi:∀(i:Nat) v,cs[i]?=some v->∃k m,v=.int k m):∃f',w.heap[j]?=some (.cells cs e f'):=by
 rcases hw.obj i j _ hij h with⟨h1,_⟩ | ⟨_,o',h2,h3⟩
 ·exact absurd h1 (a6 i)
 ·cases h3 with
  | cells e ha _=>
   rw[qd9 ha hi] at h2;exact⟨_,h2⟩
theorem q9r(hw:WR Q M Z wq w)(a6:∀i,¬ JunkSet.jk i){i j:Nat}(hij:BR Z i j)(h:qT wq i):qT w j:=by
 obtain⟨cs,e,f,h1,h2⟩:=h;obtain⟨f',h3⟩:=q9t hw a6 hij h1 h2;exact⟨cs,e,f',h3,h2⟩
theorem q5c(hw:WR Q M Z wq w)(a6:∀i,¬ JunkSet.jk i){i j:Nat}(hij:BR Z i j)(hI:qT wq i){cs:Array qgB}{e:qh8}{f:Nat × Nat}(h:wq.heap[i]?=some (.cells cs e f)):∃f',w.heap[j]?=some (.cells cs e f')/\j<w.heap.size:=by
 obtain⟨a7,e1,f1,h1,h2⟩:=hI;rw[h] at h1;cases h1;obtain⟨f',h3⟩:=q9t hw a6 hij h h2;exact⟨f',h3,(qgy.1 h3).1⟩
theorem q6v(hw:WR Q M Z wq w)(a6:∀i,¬ JunkSet.jk i){lo hi:Nat}{v v':qgB}{l:List Int}(h:qf lo hi wq v l)(hI:qQ wq v)(hv:VR Z v v'):qf 0 w.heap.size w v' l:=by
 obtain⟨base,cap,rfl,hl,hr⟩:=h;cases hv with
 | sliceNil=>exact⟨none,cap,rfl,hl,λhne=>by obtain⟨B,o,cs,fr,e,_⟩:=hr hne;cases e⟩
 | @slice i j off spot _ _ hij=>
  refine⟨_,cap,rfl,hl,λhne=>?_⟩;obtain⟨B,o,cs,fr,e,_,_,h4,h5⟩:=hr hne;cases e;obtain⟨f',h6,h7⟩:=q5c hw a6 hij (hI _ _ _ rfl) h4;exact⟨j,off,cs,f',rfl,qhx _,h7,h6,h5⟩
theorem qcn(hw:WR Q M Z wq w)(a6:∀i,¬ JunkSet.jk i){lo hi:Nat}{v v':qgB}{l:List Par}(h:qn lo hi wq v l)(hI:qQ wq v)(hv:VR Z v v'):qn 0 w.heap.size w v' l:=by
 obtain⟨base,cap,rfl,hl,hr⟩:=h;cases hv with
 | sliceNil=>exact⟨none,cap,rfl,hl,λhne=>by obtain⟨B,o,cs,fr,e,_⟩:=hr hne;cases e⟩
 | @slice i j off spot _ _ hij=>
  refine⟨_,cap,rfl,hl,λhne=>?_⟩;obtain⟨B,o,cs,fr,e,_,_,h4,h5⟩:=hr hne;cases e;obtain⟨f',h6,h7⟩:=q5c hw a6 hij (hI _ _ _ rfl) h4;exact⟨j,off,cs,f',rfl,qhx _,h7,h6,h5⟩
theorem q9s(hw:WR Q M Z wq w)(a6:∀i,¬ JunkSet.jk i){lo hi:Nat}{v v':qgB}{n:Nat}{c:Nat->Nat->Int}(h:ve lo hi wq v n c)(hI:qQ wq v)(hv:VR Z v v'):ve 0 w.heap.size w v' n c:=by
 obtain⟨base,cap,rfl,hl,hr⟩:=h;cases hv with
 | sliceNil=>exact⟨none,cap,rfl,hl,λhne=>by obtain⟨B,o,cs,ty,fr,e,_⟩:=hr hne;cases e⟩
 | @slice i j off spot _ _ hij=>
  refine⟨_,cap,rfl,hl,λhne=>?_⟩;obtain⟨B,o,cs,ty,fr,e,_,_,h4,h5⟩:=hr hne;cases e;obtain⟨f',h6,h7⟩:=q5c hw a6 hij (hI _ _ _ rfl) h4;exact⟨j,off,cs,ty,f',rfl,qhx _,h7,h6,h5⟩
theorem Y2{cl:Nat->Cl}(hw:WR Q M Z wq w)(a6:∀i,¬ JunkSet.jk i)(ho:kQ cl Z){q q0:Option qi5}{n c:Nat}(hI:qQ wq (.slice q0 n c))(hv:VR Z (.slice q0 n c) (.slice q n c)):∀ad,q=some ad->cl ad.block=.mine 0/\qT w ad.block:=by
 rintro ad rfl;cases hv with
 | slice off spot _ _ hij=>exact⟨ho _ _ hij,q9r hw a6 hij (hI _ _ _ rfl)⟩
theorem q9m{v:qgB}(h:VR Z qgD v):v=qgD:=by
 unfold qgD at h;cases h with
 | tuple hs _=>
  have:=qlA (by simpa using hs.symm);rw[this];rfl
theorem qfg{q:Option qi5}{n c:Nat}{m:Int}{y:qgB}(h:VR Z (.agg #[.slice q n c,m]) y):∃q',y=.agg #[.slice q' n c,m]/\VR Z (.slice q n c) (.slice q' n c):=by
 cases h with
 | @agg _ a' hs hv=>
  have h2:a'.size=2:=by simpa using hs.symm
  have h0:=hv 0 (.slice q n c) _ rfl (qhi (by omega));have h1:=hv 1 (.int .i64 m) _ rfl (qhi (by omega));obtain⟨q',e0⟩:∃q',a'[0]'(by omega)=.slice q' n c:=by
   generalize a'[0]'(by omega)=z at h0;cases h0<;>exact⟨_,rfl⟩
  have e1:a'[1]'(by omega)=.int .i64 m:=by
   generalize a'[1]'(by omega)=z at h1;cases h1;rfl
  rw[e0] at h0;refine⟨q',?_,h0⟩
  congr 1
  refine Array.ext (by simp[h2]) λi h3 h4=>?_;obtain rfl | rfl:i=0\/i=1:=by omega
  ·exact e0
  ·exact e1
theorem qfv{x0 x1 x2:qgB}{tp:Array qgB}{n:Nat}(h:AsR Z (#[x0,x1,x2]++qi0 n qgD) tp):∃y0 y1 y2,tp=#[y0,y1,y2]++qi0 n qgD/\VR Z x0 y0/\VR Z x1 y1/\VR Z x2 y2:=by
 have hs:tp.size=3+n:=by rw[<- h.1];simp
 have g:∀i (hi:i<tp.size) x,(#[x0,x1,x2]++qi0 n qgD:Array qgB)[i]?=some x->VR Z x tp[i]:=λi hi x hx=>h.2 i x _ hx (qhi hi);refine⟨tp[0]'(by omega),tp[1]'(by omega),tp[2]'(by omega),?_,g 0 (by omega) x0 (by simp[qki]),g 1 (by omega) x1 (by simp[qki]),g 2 (by omega) x2 (by simp[qki])⟩;refine Array.ext (by simp[hs]) λi h1 h2=>?_;by_cases hi:i<3
 ·obtain rfl | rfl | rfl:i=0\/i=1\/i=2:=by omega
  all_goals simp[qpo]
 ·have h3:i - 3<n:=by omega
  have e:(#[x0,x1,x2]++qi0 n qgD:Array qgB)[i]?=some qgD:=by
   rw[Array.getElem?_append_right (by simp;omega),Array.getElem?_replicate];simp[h3]
  have:=q9m (g i h1 qgD e);rw[this];simp[qpo,hi]
end
def Cas(N:Nat)(c:Nat->Nat->Int)(wq:qgx)(v:qgB)(u:qgx):Prop:=ve 0 u.heap.size u v N c/\qQ u v/\(wq.tp u.tape).grownBy u none
theorem q7d:Tryz.f85.results=#[.tmp 6]:=rfl
theorem qbn:Tryz.f85.ntmps=24:=rfl
section
variable[J:JunkSet]{f:qib}{Post:qgB->qgx->Prop}{W:qgx}
theorem EL.doubtful(D:Two Ya qh5)(hok:JunkSet.okf 137)(a6:∀i,¬ JunkSet.jk i)(hin:Ya.inits.idxOf? f=none)(hfs:∃g,Ya.funcs[f]?=some g/\Tryz.prog.funcs[f]?=some g){b:qh4}{a:Act}{k:List qkD}{cs:List qh4}{wq:qgx}(hb:Bot f cs)(hs:Ya.funcs[b.fn]?=Tryz.prog.funcs[b.fn]?){ops:Array qiu}{i:Nat}{rest:List Nat}{o:qiu}(ho:ops[i]?=some o)(hw:qhv o (qj4 ops a.tmps)=true){ybq pbq vbq:Option qi5}{ps:List Par}{l wl:List Int}{yc pc vc N:Nat}{c:Nat->Nat->Int}{lim:Int}(c8:∀T,(qk3 a.eval o).run Ya (wq.tp T)=.ok (.enter 85 #[.agg #[.slice ybq ps.length yc,lim],.slice pbq l.length pc,.slice vbq wl.length vc]) (wq.tp T))(pars:qn 0 wq.heap.size wq (.slice ybq ps.length yc) ps)(yi:qQ wq (.slice ybq ps.length yc))(intp:qf 0 wq.heap.size wq (.slice pbq l.length pc) l)(pi:qQ wq (.slice pbq l.length pc))(ints:qf 0 wq.heap.size wq (.slice vbq wl.length vc) wl)(vi:qQ wq (.slice vbq wl.length vc))(h0:qT wq 0)(n5:ps.length<=5)(bmn:∀i,0<=pre Par.mn ps ps.length i/\pre Par.mn ps ps.length i<=1000)(bmx:∀i,0<=pre Par.mx ps ps.length i/\pre Par.mx ps ps.length i<=1000)(bc:∀i d,0<=c i d/\c i d<=1000)(hl:∀y∈l,0<=y/\y<ps.length)(ll:l.length<=1000)(hwl:∀y∈wl,0<=y/\y<5)(hN:N<=900000)(d6:∀T,qhw Ya 137 #[.agg #[.slice ybq ps.length yc,lim],.slice vbq wl.length vc] (wq.tp T) λe u=>∃v,e=.returned v/\Cas N c wq v u)(hend:∀u (v:Bool),(v=true↔∃i,i<N/\(qz ps (ovr (c i) (pre Par.mn ps ps.length) wl wl.length) l && !qz ps (ovr (c i) (pre Par.mx ps ps.length) wl wl.length) l)=true)->(wq.tp u.tape).grownBy u none ->EL Ya qh5 f Post W (G ((b.at a (.inRegion ops (i::rest)::k)).finish (.bool v)) cs) u) :EL Ya qh5 f Post W (G (b.at a (.inRegion ops (i::rest)::k)) cs) wq:=by
 obtain⟨fq,e5,d9⟩:∃fq,Ya.funcs[85]?=some fq/\fq.ntmps=Tryz.f85.ntmps:=by
  have h1:(Ya.funcs[85]?).map (·.ntmps)=some 24:=by kernel_rfl
  cases hq:Ya.funcs[85]? with
  | none=>rw[hq] at h1;cases h1
  | some fq=>rw[hq] at h1;exact⟨fq,rfl,by simpa using h1⟩
 refine EL.enterK D hb hs ho hw c8 ne85 e5 Tryz.func85 d9 (c0:=Tryz.f85.body.getD .skip) (by kernel_rfl) ?_;intro Z tp c' g6 pre' w cl hcs hK;rw[qbn] at hK;obtain⟨y0,y1,y2,rfl,v0,v1,v2⟩:=qfv (n:=21) (by simpa using hK.tm);obtain⟨yb,rfl,vy⟩:∃yb,y0=.agg #[.slice yb ps.length yc,lim]/\VR Z (.slice ybq ps.length yc) (.slice yb ps.length yc):=qfg v0;obtain⟨pb,rfl⟩:∃pb,y1=.slice pb l.length pc:=by cases v1<;>exact⟨_,rfl⟩
 obtain⟨vb,rfl⟩:∃vb,y2=.slice vb wl.length vc:=by cases v2<;>exact⟨_,rfl⟩
 have b7:EE qh5 Post cl (G ((qhl 85).at ⟨#[.agg #[.slice yb ps.length yc,lim],.slice pb l.length pc,.slice vb wl.length vc]++qi0 21 qgD,[]⟩ [.code (Tryz.f85.body.getD .skip)]) (c'::pre')) w:=by
  refine qfq D hok (Rc:=Cas N c wq) hK.c0 hK.ln hK.wr hK.gl hK.own v0 v2 a6 d6 (λv u h=>by obtain⟨⟨b1,c1,e,_⟩,_⟩:=h;exact⟨b1,N,c1,e⟩) ?_;intro O wq1 v Y B V A Nx Fd Wg ab N' ac w5 cl5 e9 b6 h5;obtain⟨b0,d7,a8⟩:=e9;obtain⟨b1,c1,rfl,g8,g9⟩:=id b0;obtain⟨rfl,rfl⟩:N'=N/\ac=c1:=by cases b6<;>exact⟨rfl,rfl⟩
  have gb:∀{B:Nat},qT wq B->qT wq1 B:=λ⟨g5,e,g,h1,h2⟩=>⟨g5,e,g,by rw[a8.block _ (qgy.1 h1).1 (by simp)];exact h1,h2⟩;have gi:∀{v:qgB},qQ wq v->qQ wq1 v:=λh ad n c e=>gb (h ad n c e);have b8:=vy.mono h5.le;have c9:=v1.mono h5.le;have c3:=v2.mono h5.le;have t1:=Y2 h5.wr a6 h5.own (gi yi) b8;have t2:=Y2 h5.wr a6 h5.own (gi pi) c9;have t3:=Y2 h5.wr a6 h5.own (gi vi) c3;have t4:=Y2 h5.wr a6 h5.own d7 b6
  let bl:List Nat:=(yb.toList++pb.toList++vb.toList++ab.toList).map (·.block)
  have e7:∀b∈bl,cl5 b=.mine 0/\qT w5 b:=by
   intro b hb;simp only[bl,ql7,qjv,qqp] at hb;obtain⟨ad,(((h | h) | h) | h),rfl⟩:=hb
   ·exact t1 ad h
   ·exact t2 ad h
   ·exact t3 ad h
   ·exact t4 ad h
  have a7:∀{q:Option qi5},q∈[yb,pb,vb,ab]->∀ad,q=some ad->ad.block∈bl:=by
   intro q hq ad e;subst e;simp only[qix,qiF,or_false] at hq;simp only[bl,ql7,qjv,qqp];refine⟨ad,?_,rfl⟩;rcases hq with h | h | h | h<;>simp[<- h]
  have d8:BR O 0 0:=(hK.gl 0 (qhx _)).mono h5.le;refine qfB h5 e7 ?_ (h5.own _ _ d8) (a7 (by simp)) (a7 (by simp)) (a7 (by simp)) (a7 (by simp)) (qcn h5.wr a6 (show qn 0 wq.heap.size wq1 _ ps from pars.kept (w:=wq.tp wq1.tape) a8 (by simp)) (gi yi) b8) (q6v h5.wr a6 (show qf 0 wq.heap.size wq1 _ wl from ints.kept (w:=wq.tp wq1.tape) a8 (by simp)) (gi vi) c3) (q6v h5.wr a6 (show qf 0 wq.heap.size wq1 _ l from intp.kept (w:=wq.tp wq1.tape) a8 (by simp)) (gi pi) c9) (q9s h5.wr a6 b0 d7 b6) n5 bmn bmx bc hl ll hwl hN ?_
  ·obtain⟨cs,e,g,h0,e4⟩:=h0;have h1:wq1.heap[0]?=some (.cells cs e g):=by rw[a8.block 0 (qgy.1 h0).1 (by simp)];exact h0
   exact q9r h5.wr a6 d8 ⟨cs,e,g,h1,e4⟩
  ·intro t todo w6 cl6 v hv hfz hsz d5 hout a9 e6 ht;have e8:W.heap.size<=w.heap.size:=hK.kp.size;have c5:∀b,b<W.heap.size->cl5 b=.mine 0:=λb hb=>(h5.cold b (qh7 hb e8)).trans (hK.om b hb);have g7:w.heap.size<=w5.heap.size:=h5.kp.size;refine EE.pure (g':=G (c'.finish (.bool v)) pre') rfl (λw=>?_) λd=>?_
   ·have hr:(qjb qky t).run qh5 w=.ok (.bool v) w:=by rw[<- ht];exact results_tmp q7d t qh5 w
    exact stepG_leave (P:=qh5) (main:=true) (b:=qhl 85) (a:=⟨t,[]⟩) (cs:=pre') (c:=c') (todo:=todo) (fn:=qky) rfl rfl Tryz.func85 hr (qn0 q7d _ _)
   ·have b9:WR Ya W.heap.size O wq1 w6:=h5.wr.rely hsz (by rw[d5]) (λi j hij _=>hfz j (h5.wr.lt _ _ hij) (h5.own _ _ hij)) (λi j _ h=>absurd h (a6 i));have hE:=hend wq1 v hv a8;rw[hcs] at hE;refine EL.resume hE hin hfs h5.le hK.top hK.rest (.bool v) (q9j b9 d) h5.ln hK.gl (λi j hij=>a9 j (h5.own i j hij)) e6 ⟨λj hj hn=>?_,d5.trans (h5.kp.os.trans hK.kp.os),hout.trans (h5.kp.output.trans hK.kp.output),?_,λi j hij hi=>?_,?_⟩ λb hb=>a9 b (c5 b hb)
    ·show w6.heap[j]?=_;rw[hfz j (by omega) (c5 j hj),h5.kp.old j (by omega) hn,hK.kp.old j hj λi hi=>hn i (hi.mono h5.le)]
    ·show W.heap.size<=w6.heap.size;omega
    ·rcases h5.fr i j hij with h | h
     ·exact hK.kp.inn i j h hi
     ·omega
    ·show W.heap.size<=w6.heap.size;omega
 have:=b7 w.drawn;exact this
end
end
section
open Go Go.RowKit Go.Co Go.Sim
def q6m(ps:List Par)(wl:List Int):Nat:=(yS ps wl).length
def q0f(ps:List Par)(wl:List Int)(i d:Nat):Int:=((yS ps wl)[i]?.getD λ_=>0) d
theorem qdw(ps:List Par)(hp:∀p∈ps,0<=p.mn/\p.mn<=p.mx/\p.mx<=1000)(wl:List Int):∀g∈yS ps wl,∀d,0<=g d/\g d<=1000:=by
 have key:∀(wl:List Int) (L:List (Nat->Int)),(∀g∈L,∀d,0<=g d/\g d<=1000)->∀g∈wl.foldl (kZ ps) L,∀d,0<=g d/\g d<=1000:=by
  intro wl;induction wl with
  | nil=>exact λL h=>h
  | cons x wl ih=>
   intro L h;refine ih _ λg hg d=>?_;unfold kZ at hg;split at hg
   ·rename_i p a6
    obtain⟨h1,h2,h3⟩:=hp p (qhg a6);unfold kg at hg;rw[List.mem_flatMap] at hg;obtain⟨g0,a7,hg⟩:=hg;unfold kW at hg;rw[ql7] at hg;obtain⟨m,hm,rfl⟩:=hg;rw[qjq] at hm;unfold kOf at hm;unfold YL;split
    ·omega
    ·exact h g0 a7 d
   ·exact h g hg d
 exact key wl _ λg hg d=>by simp at hg;subst hg;simp
theorem qdx(ps:List Par)(hp:∀p∈ps,0<=p.mn/\p.mn<=p.mx/\p.mx<=1000)(wl:List Int)(i d:Nat):0<=q0f ps wl i d/\q0f ps wl i d<=1000:=by
 unfold q0f;cases h:(yS ps wl)[i]? with
 | none=>simp
 | some g=>exact qdw ps hp wl g (qhg h) d
theorem qfc{lo hi:Nat}{yv vv:qgB}{ps:List Par}{lim:Int}{wl:List Int}{wq:qgx}(hY:j5 lo hi wq yv ps lim)(hI:qf lo hi wq vv wl)(hhi:hi<=wq.heap.size)(h5:ps.length<=5)(hx:∀x∈wl,0<=x/\x<ps.length)(hp:∀p∈ps,0<=p.mn/\p.mn<=p.mx/\p.mx<=1000)(hN:∀j,j<=wl.length->(yS ps (wl.take j)).length<=900000)(T:Nat->qj1->Nat) :qhw Ya 137 #[yv,vv] (wq.tp T) λe u=>∃v,e=.returned v/\Cas (q6m ps wl) (q0f ps wl) wq v u:=by
 refine(q97 lo hi yv vv ps lim wl (wq.tp T) hY hI hhi h5 hx hp hN).mono ?_;rintro e u ⟨v,rfl,hg,ho,hi⟩;have a8:q6m ps wl<=900000:=by have:=hN wl.length (qgA _);rwa [qis] at this
 refine⟨v,rfl,?_,?_,?_⟩
 ·rcases ho.2 with⟨rfl,h0⟩ | ⟨g,cap,cur,rfl,hb,hgt,_,_,_,htake⟩
  ·have a7:q6m ps wl=0:=h0;exact⟨none,0,by rw[a7],by omega,λh=>by omega⟩
  ·refine⟨_,cap,rfl,by omega,λ_=>⟨g,0,cur,101,_,rfl,qhx _,(qgy.1 hgt).1,hgt,λi hi d hd=>?_⟩⟩;have a6:i<(yS ps wl).length:=hi;have h1:=q1m (yS ps wl) i _ (qgG a6) d hd;rw[<- htake,qm0] at h1;split at h1
   ·rw[qhf];unfold q0f;rw[qgG a6];simpa using h1
   ·cases h1
 ·intro ad n c e;subst e;exact hi ad.block rfl
 ·have ht:u.tape=T:=hg.tape;rw[ht];exact hg
end
section
open Go Go.RowKit Go.Co Go.Sim Go.Conc Go.ConcN
theorem qaw{ps:List Par}{f:Par->Int}(hf:∀p∈ps,0<=f p/\f p<=1000)(k i:Nat):0<=pre f ps k i/\pre f ps k i<=1000:=by
 unfold pre;split
 ·cases h:ps[i]? with
  | none=>simp
  | some p=>exact hf p (qhg h)
 ·simp
def Jo(ps:List Par)(l wl:List Int):Prop:=∃i,i<q6m ps wl/\(qz ps (ovr (q0f ps wl i) (pre Par.mn ps ps.length) wl wl.length) l && !qz ps (ovr (q0f ps wl i) (pre Par.mx ps ps.length) wl wl.length) l)=true
section
variable[J:JunkSet]{f:qib}{Post:qgB->qgx->Prop}{W:qgx}
theorem EL.doubt(D:Two Ya qh5)(hok:JunkSet.okf 137)(a7:∀i,¬ JunkSet.jk i)(hin:Ya.inits.idxOf? f=none)(hfs:∃g,Ya.funcs[f]?=some g/\Tryz.prog.funcs[f]?=some g){b:qh4}{a:Act}{k:List qkD}{cs:List qh4}{wq:qgx}(hb:Bot f cs)(hs:Ya.funcs[b.fn]?=Tryz.prog.funcs[b.fn]?){ops:Array qiu}{i:Nat}{rest:List Nat}{o:qiu}(ho:ops[i]?=some o)(hw:qhv o (qj4 ops a.tmps)=true){ybq pbq vbq:Option qi5}{ps:List Par}{l wl:List Int}{yc pc vc:Nat}{lim:Int}(a6:∀T,(qk3 a.eval o).run Ya (wq.tp T)=.ok (.enter 85 #[.agg #[.slice ybq ps.length yc,lim],.slice pbq l.length pc,.slice vbq wl.length vc]) (wq.tp T))(pars:qn 0 wq.heap.size wq (.slice ybq ps.length yc) ps)(yi:qQ wq (.slice ybq ps.length yc))(intp:qf 0 wq.heap.size wq (.slice pbq l.length pc) l)(pi:qQ wq (.slice pbq l.length pc))(ints:qf 0 wq.heap.size wq (.slice vbq wl.length vc) wl)(vi:qQ wq (.slice vbq wl.length vc))(h0:qT wq 0)(n5:ps.length<=5)(hp:∀p∈ps,0<=p.mn/\p.mn<=p.mx/\p.mx<=1000)(hl:∀y∈l,0<=y/\y<ps.length)(ll:l.length<=1000)(hwl:∀y∈wl,0<=y/\y<ps.length)(hN:∀j,j<=wl.length->(yS ps (wl.take j)).length<=900000)(hend:∀u (v:Bool),(v=true↔Jo ps l wl)->(wq.tp u.tape).grownBy u none->EL Ya qh5 f Post W (G ((b.at a (.inRegion ops (i::rest)::k)).finish (.bool v)) cs) u) :EL Ya qh5 f Post W (G (b.at a (.inRegion ops (i::rest)::k)) cs) wq:=by
 have a8:q6m ps wl<=900000:=by have:=hN wl.length (qgA _);rwa [qis] at this
 exact EL.doubtful D hok a7 hin hfs hb hs ho hw (N:=q6m ps wl) (c:=q0f ps wl) a6 pars yi intp pi ints vi h0 n5 (qaw (λp h=>by have:=hp p h;omega) _) (qaw (λp h=>by have:=hp p h;omega) _) (qdx ps hp wl) hl ll (λy hy=>by have:=hwl y hy;omega) a8
  (qfc ⟨_,rfl,pars⟩ ints (qgA _) n5 hwl hp hN) λu v hv hg=>hend u v hv hg
end
end
section
open Go Go.RowKit Go.Co
section
variable{lo hi O:Nat}{w w':qgx}{v:qgB}
theorem kH{cs cs':Array qgB}{e e':qh8}{f f':Nat × Nat}{B:Nat}(h:w.heap[B]?=some (.cells cs e f))(hO:w.heap[O]?=some (.cells cs' e' f'))(hne:e≠e'):B≠O:=by
 rintro rfl;rw[h] at hO;cases hO;exact hne rfl
theorem qf.kept_ne{l:List Int}(h:qf lo hi w v l)(hg:w.grownBy w' (some O)){cs':Array qgB}{f':Nat × Nat}(hO:w.heap[O]?=some (.cells cs' 29 f')):qf lo hi w' v l:=by
 obtain⟨base,cap,rfl,hl,hr⟩:=h;refine⟨base,cap,rfl,hl,λhne=>?_⟩;obtain⟨B,o,cs,fr,e1,e2,e3,e4,e5⟩:=hr hne;exact⟨B,o,cs,fr,e1,e2,e3,blk hg (λe=>kH e4 hO (by decide) (by cases e;rfl)) e4,e5⟩
theorem qn.kept_ne{l:List Par}(h:qn lo hi w v l)(hg:w.grownBy w' (some O)){cs':Array qgB}{f':Nat × Nat}(hO:w.heap[O]?=some (.cells cs' 29 f')):qn lo hi w' v l:=by
 obtain⟨base,cap,rfl,hl,hr⟩:=h;refine⟨base,cap,rfl,hl,λhne=>?_⟩;obtain⟨B,o,cs,fr,e1,e2,e3,e4,e5⟩:=hr hne;exact⟨B,o,cs,fr,e1,e2,e3,blk hg (λe=>kH e4 hO (by decide) (by cases e;rfl)) e4,e5⟩
theorem qT.kept_ne{B:Nat}(h:qT w B)(hg:w.grownBy w' (some O)){a:Option qi5}{n c:Nat}{f':Nat × Nat}(hO:w.heap[O]?=some (.cells #[.slice a n c] 29 f')):qT w' B:=by
 obtain⟨cs,e,f,h1,h2⟩:=h;refine⟨cs,e,f,blk hg (λe=>?_) h1,h2⟩;cases e;rw[h1] at hO;cases hO;obtain⟨k,m,e⟩:=h2 0 _ rfl;cases e
theorem qQ.kept_ne(h:qQ w v)(hg:w.grownBy w' (some O)){a:Option qi5}{n c:Nat}{f':Nat × Nat}(hO:w.heap[O]?=some (.cells #[.slice a n c] 29 f')):qQ w' v:=λad m k e=>qT.kept_ne (h ad m k e) hg hO
end
end
section
open Go Go.RowKit Go.Co Go.Sim Go.Conc Go.ConcN
structure xL(w:qgx)(O Y L:Nat)(yb:Option qi5)(ps:List Par)(yc:Nat)(lim:Int)(pb:Option qi5)(l:List Int)(pc:Nat):Prop where
 out:∃b n c,w.heap[O]?=some (.cells #[.slice b n c] 29 (0,0))
 ya:w.heap[Y]?=some (.cells #[.slice yb ps.length yc,lim] 91 (0,0))
 pa:w.heap[L]?=some (.cells #[.slice pb l.length pc] 29 (0,0))
 ne:O≠L
 pars:qn 0 w.heap.size w (.slice yb ps.length yc) ps
 yi:qQ w (.slice yb ps.length yc)
 ints:qf 0 w.heap.size w (.slice pb l.length pc) l
 pi:qQ w (.slice pb l.length pc)
 h0:qT w 0
theorem xL.kept{w w':qgx}{O Y L:Nat}{yb:Option qi5}{ps:List Par}{yc:Nat}{lim:Int}{pb:Option qi5}{l:List Int}{pc:Nat}(h:xL w O Y L yb ps yc lim pb l pc)(hg:w.grownBy w' (some O))(ho:∃b n c,w'.heap[O]?=some (.cells #[.slice b n c] 29 (0,0))):xL w' O Y L yb ps yc lim pb l pc:=by
 obtain⟨b,n,c,hO⟩:=h.out;refine⟨ho,blk hg (λe=>kH h.ya hO (by decide) (by cases e;rfl)) h.ya,blk hg (λe=>h.ne (by cases e;rfl)) h.pa,h.ne,(h.pars.kept_ne hg hO).mono (qgA _) hg.size,h.yi.kept_ne hg hO,(h.ints.kept_ne hg hO).mono (qgA _) hg.size,h.pi.kept_ne hg hO,?_⟩;obtain⟨cs,e,g,h0,a6⟩:=h.h0;refine⟨cs,e,g,blk hg (λe=>?_) h0,a6⟩;cases e;rw[hO] at h0;cases h0;obtain⟨k,m,e⟩:=a6 0 _ rfl;cases e
theorem xL.tp{w:qgx}{O Y L:Nat}{yb:Option qi5}{ps:List Par}{yc:Nat}{lim:Int}{pb:Option qi5}{l:List Int}{pc:Nat}(h:xL w O Y L yb ps yc lim pb l pc)(T:Nat->qj1->Nat):xL (w.tp T) O Y L yb ps yc lim pb l pc :=
 ⟨h.out,h.ya,h.pa,h.ne,h.pars,h.yi,h.ints,h.pi,h.h0⟩
theorem Tp.x85:Ya.funcs[85]?=some { qky with body:=some (.exit 0) }:=by kernel_rfl
section
variable[J:JunkSet]{f:qib}{Post:qgB->qgx->Prop}{W:qgx}
theorem EC.of_body1(D:Two Ya qh5){fk:qib}{fn:Func}{c0:qje}{args:Array qgB}{wq:qgx}{R:qgB->qgx->Prop}{t:Nat}(hf:Ya.funcs[fk]?=some fn)(hp:Tryz.prog.funcs[fk]?=some fn)(a7:fn.body=some c0)(hr:fn.results=#[.tmp t])(h:∀cs,Bot f cs->(∀tm todo u,R (tm.getD t qgD) u->EL Ya qh5 f Post W (G { (qhl fk).at ⟨tm,[]⟩ todo with mode:=.returning } cs) u) ->EL Ya qh5 f Post W (G ((qhl fk).at ⟨args++qi0 (fn.ntmps - args.size) qgD,[]⟩ [.code c0]) cs) wq):EC Ya qh5 f Post W fk args wq R :=
 EC.of_body D hf hp a7 λcs hb a6=>h cs hb λtm todo u hR=>a6 ⟨tm,[]⟩ todo u _ rfl (λT=>results_tmp hr _ _ _) hR
structure qcg(ps:List Par)(l wl:List Int):Prop where
 n5:ps.length<=5
 hp:∀p∈ps,0<=p.mn/\p.mn<=p.mx/\p.mx<=1000
 hl:∀y∈l,0<=y/\y<ps.length
 ll:l.length<=1000
 hwl:∀y∈wl,0<=y/\y<ps.length
 wl1:wl.length<=1000
 hN:∀j,j<=wl.length->(yS ps (wl.take j)).length<=900000
theorem el83(D:Two Ya qh5)(hok:JunkSet.okf 137)(d9:∀i,¬ JunkSet.jk i)(hin:Ya.inits.idxOf? f=none)(hfs:∃g,Ya.funcs[f]?=some g/\Tryz.prog.funcs[f]?=some g){wq:qgx}{O Y L:Nat}{yb:Option qi5}{ps:List Par}{yc:Nat}{lim:Int}{pb:Option qi5}{l:List Int}{pc:Nat}(h:xL wq O Y L yb ps yc lim pb l pc){vb:Option qi5}{vc:Nat}{wl:List Int}(hw:qf 0 wq.heap.size wq (.slice vb wl.length vc) wl)(d6:qQ wq (.slice vb wl.length vc))(hne:wl≠[]\/(qi1 vb wl.length vc)=.slice none 0 0)(hd:qcg ps l wl) :EC Ya qh5 f Post W 83 #[.slice vb wl.length vc,.pointer (some O),.pointer (some Y),.pointer (some L)] wq λv u=>∃d:Bool,v=.bool (!d)/\(d=true↔Jo ps l wl)/\(wq.tp u.tape).grownBy u (some O)/\∃b n c,u.heap[O]?=some (.cells #[.slice b n c] 29 (0,0))/\qf 0 u.heap.size u (.slice b n c) wl:=by
 refine EC.of_body1 D (fn:=Tryz.f83) (c0:=Tryz.f83.body.getD .skip) (t:=5) Tp.x83 Tryz.func83 (by kernel_rfl) rfl λcs hb a8=>?_;have HR:=qgv a8;clear a8;simp only[Tryz.f83,qgH];have hs:Ya.funcs[(qhl 83).fn]?=Tryz.prog.funcs[(qhl 83).fn]?:=z6 83 (by decide);walk_nrm;refine EL.sp D hb hs λT=>?_;go_wp2;refine EL.tape (wq:=wq) ?_ T;refine EL.sp D hb hs λT=>?_;obtain⟨ob,on,oc,hO⟩:=h.out;have HO:=qgv hO;have b8:(wq.tp T).frozen? ⟨O,0,none⟩=false:=qm hO;have b9:(wq.tp T).cell? O=some (.slice ob on oc):=q8 hO rfl;have hlt:O<(wq.tp T).heap.size:=(qgy.1 hO).1;clear hO;go_wp2;refine(Jr 0 wq.heap.size _ wl (wq.tp T) hw (qgA _) hne hd.wl1).mono ?_;rintro e w2 ⟨v',rfl,a7,c9⟩;have e5:=a7.cl b9;have b7:=(a7.frozen_far _ hlt (by simp)).trans b8;have a9:=(bk a7 HO.out);have ⟨HG2,HI2⟩:=qH a7 c9;have d8:=a7.size;have d5:=qgv a9;clear a7 c9 a9;obtain⟨cb,cc,rfl,-,-⟩:=HI2.out.cell;go_wp2;have hg:(wq.tp T).grownBy (w2.setCell O (.slice cb wl.length cc)) (some O):=(HG2.out.but (some O)).trans (qe w2 O 0 _);have b0:(w2.setCell O (.slice cb wl.length cc)).heap[O]?=some (.cells #[.slice cb wl.length cc] 29 (0,0)):=by rw[qg d5.out];rfl
 have c8:qf 0 (w2.setCell O (.slice cb wl.length cc)).heap.size (w2.setCell O (.slice cb wl.length cc)) (.slice cb wl.length cc) wl :=
  (HI2.out.kept (qe w2 O 0 _) (λR e=>by cases e;exact .inl hlt)).mono (qhx _) (by simp)
 generalize w2.setCell O (.slice cb wl.length cc)=u at hg b0 c8 ⊢;clear e5 b7 b8 b9 d8 HG2 HI2 d5;have h3:xL u O Y L yb ps yc lim pb l pc:=xL.kept (h.tp T) hg ⟨_,_,_,b0⟩;have d7:qf 0 u.heap.size u (.slice vb wl.length vc) wl:=(qf.kept_ne (w:=wq.tp T) hw hg HO.out).mono (qgA _) hg.size;have b6:qQ u (.slice vb wl.length vc):=qQ.kept_ne (w:=wq.tp T) d6 hg HO.out;show EL _ _ _ _ _ _ _;refine EL.seq D hb hs ?_;refine EL.region D hb hs ?_;simp only[qhn,qh3,qhc,qhk,qhf,qht,qi4];refine EL.list D hb hs [0,1,2] [_,_,_] (rest:=[3,4,5]) rfl λT3=>?_;have c1:(u.tp T3).cell? Y=some (.slice yb ps.length yc):=q8 h3.ya rfl;have c2:(u.tp T3).cell? ⟨Y,1,none⟩=some (.int .i64 lim):=q8 h3.ya rfl;have c3:(u.tp T3).cell? L=some (.slice pb l.length pc):=q8 h3.pa rfl;go_wp2;refine EL.tape (wq:=u) ?_ T3;refine EL.doubt D hok d9 hin hfs hb hs (ybq:=yb) (pbq:=pb) (vbq:=vb) (ps:=ps) (l:=l) (wl:=wl) (yc:=yc) (pc:=pc) (vc:=vc) (lim:=lim) rfl rfl (λT4=>by rw[qm9 (f:=85) rfl Tp.x85 (by kernel_rfl) rfl];walk_nrm) h3.pars h3.yi h3.ints h3.pi d7 b6 h3.h0 hd.n5 hd.hp hd.hl hd.ll hd.hwl hd.hN λu2 d e4 a6=>?_;rw[qjg];walk_nrm;refine EL.list D hb hs [4,5] [_,_] (rest:=[]) rfl λT5=>?_;go_wp2;refine EL.tape (wq:=u2) ?_ T5;refine EL.region_end D hb hs ?_;refine EL.retS D hb hs ?_;refine HR.out _ _ u2 ⟨d,rfl,e4,?_,cb,wl.length,cc,?_,?_⟩
 ·exact⟨a6.os.trans hg.os,rfl,a6.output.trans hg.output,qh0 hg.size a6.size,λk hk hne=>(a6.block k (qh7 hk hg.size) (by simp)).trans (hg.block k hk hne)⟩
 ·exact bk a6 b0
 ·exact(qf.kept (w:=u.tp u2.tape) c8 a6 (by simp)).mono (qgA _) a6.size
end
end
section
open Go Go.RowKit Go.Co Go.Sim Go.Conc Go.ConcN
theorem qe5(x:Array qgB)(h:x.size=41):∃y0 y1 y2 y3 y4 y5 y6 y7 y8 y9 y10 y11 y12 y13 y14 y15 y16 y17 y18 y19 y20 y21 y22 y23 y24 y25 y26 y27 y28 y29 y30 y31 y32 y33 y34 y35 y36 y37 y38 y39 y40,x=#[y0,y1,y2,y3,y4,y5,y6,y7,y8,y9,y10,y11,y12,y13,y14,y15,y16,y17,y18,y19,y20,y21,y22,y23,y24,y25,y26,y27,y28,y29,y30,y31,y32,y33,y34,y35,y36,y37,y38,y39,y40]:=by
 have e:=QC x;rw[h] at e;exact⟨_,_,_,_,_,_,_,_,_,_,_,_,_,_,_,_,_,_,_,_,_,_,_,_,_,_,_,_,_,_,_,_,_,_,_,_,_,_,_,_,_,e.trans rfl⟩
structure Y0(w:qgx)(E Lv Gp O Y Lp:Nat)(lb:Option qi5)(lc:Nat)(ws:List Int):Prop where
 en:w.heap[E]?=some (.cells #[.func (.func 83) #[] #[.pointer (some O),.pointer (some Y),.pointer (some Lp)]] 51 (0,0))
 ls:w.heap[Lv]?=some (.cells #[.slice lb ws.length lc] 29 (0,0))
 wsI:qf 0 w.heap.size w (.slice lb ws.length lc) ws
 gr:w.heap[Gp]?=some (.cells #[.func (.func 136) #[] #[.pointer (some E),.pointer (some Lv),.pointer (some Gp)]] 151 (0,0))
 neL:O≠Lv
def ja(p:List Int->Bool):List (List Int)->List Int->Bool × List Int
 | [],o=>(false,o)
 | c::cs,_=>if p c then(true,c) else ja p cs c
theorem q0m(p:List Int->Bool):∀(a b:List (List Int)) (o:List Int),ja p (a++b) o=if(ja p a o).1 then ja p a o else ja p b (ja p a o).2:=by
 intro a;induction a with
 | nil=>intro b o;simp[ja]
 | cons c a ih=>
  intro b o;simp only[qhe,ja];by_cases h:p c=true
  ·simp[h]
  ·simp only[if_neg h];exact ih b c
theorem q4f(w:qgx)(a6 old:Nat)(e:qh8):a6<=qkG w a6 old e:=by
 unfold qkG;simp only[Question.cut];omega
theorem q9g(z:Array qgB)(hz:zi z.toList)(hp:0<z.size)(n:Nat):zi (qjf z n).toList:=q2G hz hp n
theorem q3H{w:qgx}{l:List Int}{zs:Array qgB}(hz:zi zs.toList)(hl:l.length<=1000000)(cap:Nat) :qf w.heap.size (w.drew.alloc (.cells ((l.map (qhj .i64)).toArray++zs) 3)).heap.size (w.drew.alloc (.cells ((l.map (qhj .i64)).toArray++zs) 3)) (.slice (some w.heap.size) l.length cap) l /\qQ (w.drew.alloc (.cells ((l.map (qhj .i64)).toArray++zs) 3)) (.slice (some w.heap.size) l.length cap):=by
 have hh:(w.drew.alloc (.cells ((l.map (qhj .i64)).toArray++zs) 3)).heap[w.heap.size]?=some (.cells ((l.map (qhj .i64)).toArray++zs) 3 (0,0)):=qgF w.drew _;refine⟨⟨_,cap,rfl,by omega,λ_=>⟨w.heap.size,0,_,_,rfl,qgA _,?_,hh,λi hi=>?_⟩⟩,λad n c e=>?_⟩
 ·exact(qgy.1 hh).1
 ·rw[qhf,qml (by simpa using hi)];simp[qgG hi]
 ·cases e;refine⟨_,_,_,hh,λi v hv=>?_⟩;have hm:=qiE hv;rcases qkb.1 hm with h | h
  ·simp only[qkd,ql7] at h;obtain⟨x,_,rfl⟩:=h;exact⟨_,_,rfl⟩
  ·exact hz v (by simpa using h)
theorem qas{w:qgx}{nb:Option qi5}{nc B:Nat}{now:List Int}{x:Int}(ty:qh8)(hN:qf 0 w.heap.size w (.slice nb now.length nc) now)(hx:w.cell? B=some (.int .i64 x))(hl:now.length<=1000) :∃cap w',(qku #[29,29] ty #[.slice nb now.length now.length,.slice (some B) 1 1]).run Ya w=.ok (.slice (some w.heap.size) (now.length+1) cap) w'/\now.length+1<=cap/\w.grownBy w' none /\qf w.heap.size w'.heap.size w' (.slice (some w.heap.size) (now.length+1) cap) (now++[x])/\qQ w' (.slice (some w.heap.size) (now.length+1) cap):=by
 obtain⟨i0,b8,b7,a8,b6⟩:=qjj Tp.info3p;have a7:∀j v,([qhj .i64 x]:List qgB)[j]?=some v->w.cell? ((⟨B,0,none⟩:qi5).add j)=some v:=λj v hj=>by
  have:j=0:=by have:=(qh9.1 hj).1;simp at this;omega
  subst this;simp at hj;subst hj;simpa[Addr.add] using hx
 have hzi:zi (qhj .i64 0).cells.toList:=λv hv=>by simp[qnE] at hv;exact⟨_,_,hv⟩
 have b0:(now++[x]).length=now.length+1:=by simp
 cases nb with
 | none=>
  have h0:now=[]:=by
   refine qhF λhne=>?_;obtain⟨base,cap,e,_,hr⟩:=hN;cases e;obtain⟨B,o,cs,fr,e1,_⟩:=hr hne;cases e1
  subst h0;have hr:=run_append_nil (P:=Ya) w 29 ty 3 i0 _ Tp.und29' b8 b7 ⟨B,0,none⟩ 1 1 [qhj .i64 x] (by rw[a8];rfl) a7 (by omega) (by omega) (by rw[b6];omega);have:=q3H (w:=w) (l:=[x]) (zs:=qjf (qhj .i64 0).cells (qkG w 1 0 3 - 1)) (q9g _ hzi (by decide) _) (by simp) (qkG w 1 0 3);exact⟨_,_,hr,q4f _ _ _ _,(qc w none).trans (qgw _ _ none),this.1,this.2⟩
 | some b=>
  have a9:∀j v,(now.map (qhj .i64))[j]?=some v->w.cell? (b.add j)=some v:=λj v hj=>by
   have a6:j<now.length:=by simpa using(qh9.1 hj).1
   obtain⟨base,cap,e,_,hc⟩:=hN.cell;cases e;obtain⟨B',o,e1,_,_,_,h4⟩:=hc (by intro e;rw[e] at a6;simp at a6);cases e1;have h5:=h4 j a6;rw[qj7,qgG a6] at hj;rw[qgG a6] at h5;cases hj;exact yg h5
  have hr:=run_append_grow (P:=Ya) w 29 ty 3 i0 _ Tp.und29' b8 b7 b now.length now.length (now.map (qhj .i64)) (by rw[a8];simp) a9 ⟨B,0,none⟩ 1 1 [qhj .i64 x] (by rw[a8];rfl) a7 (by omega) (by omega) (growslice_fits (by omega) (by rw[b6];omega));have:=q3H (w:=w) (l:=now++[x]) (zs:=qjf (qhj .i64 0).cells (qkG w (now.length+1) now.length 3 - (now.length+1))) (q9g _ hzi (by decide) _) (by simp;omega) (qkG w (now.length+1) now.length 3);have e:(now.map (qhj .i64)).toArray++[qhj .i64 x].toArray=((now++[x]).map (qhj .i64)).toArray:=by simp
  rw[e] at hr;rw[b0] at this;exact⟨_,_,hr,q4f _ _ _ _,(qc w none).trans (qgw _ _ none),this.1,this.2⟩
section
variable[J:JunkSet]{f:qib}{Post:qgB->qgx->Prop}{W:qgx}
noncomputable def sub:List Nat->qje->qje
 | 0::l,.seq a _=>sub l a
 | 1::l,.seq _ b=>sub l b
 | 0::l,.cond _ a _=>sub l a
 | 1::l,.cond _ _ b=>sub l b
 | 0::l,.block _ c=>sub l c
 | 0::l,.loop c=>sub l c
 | _,c=>c
theorem q7A{ops:Array qiu}{o:qiu}{a:Act}{w:qgx}{K:Act->qgx->Prop}{Q:Exit->Act->qgx->Prop}{E:Prop}(a6:o.guard=none)(s x:qhE)(hop:o.op=.call { callee:=.builtin .append,args:=#[s,x],argTypes:=#[29,29] }){nb:Option qi5}{nc B:Nat}{now:List Int}{y:Int}(hs:a.eval s=.slice nb now.length now.length)(hx:a.eval x=.slice (some B) 1 1)(hN:qf 0 w.heap.size w (.slice nb now.length nc) now)(hy:w.cell? B=some (.int .i64 y))(hl:now.length<=1000)(h:∀cap w',now.length+1<=cap->w.grownBy w' none->qf w.heap.size w'.heap.size w' (.slice (some w.heap.size) (now.length+1) cap) (now++[y])->qQ w' (.slice (some w.heap.size) (now.length+1) cap)->K (a.put o.dst (.slice (some w.heap.size) (now.length+1) cap)) w') :if qhv o (qj4 ops a.tmps)=true then Oper.wp Ya o a w K Q else E:=by
 rw[if_pos (by simp[qhv,a6])];obtain⟨cap,w',hr,h1,h2,h3,h4⟩:=qas o.type hN hy hl;unfold Oper.wp qk3;simp only[hop,resolve,invoke,builtin,qiy,qms,qiv,qmu,qla,qnh,hs,hx,hr];exact h cap w' h1 h2 h3 h4
noncomputable def q5y:qje->Array qiu
 | .region _ ops _=>ops
 | _=>#[]
theorem reg6(D:Two Ya qh5){cs:List qh4}{k:List qkD}(hb:Bot f cs){u:qgx}{E Lv Gp O Y Lp LB lo:Nat}{nb:Option qi5}{lc nc i m:Nat}{ws now:List Int}{x:Int}{y1 y3 y6 y7 y8 y9 y11 y12 y13 y14 y15 y16 y17 y18 y19 y20 y21 y22 y23 y24 y25 y26 y27 y28 y29 y30 y31 y32 y33 y34 y35 y36 y37 y38 y39 y40:qgB}(hG:Y0 u E Lv Gp O Y Lp (some ⟨LB,lo,none⟩) lc ws)(hN:qf 0 u.heap.size u (.slice nb now.length nc) now)(hnc:now.length<=nc)(hi:i<ws.length)(hx:u.cell? ⟨LB,lo+i,none⟩=some (.int .i64 x))(hm:m<=1000)(hl:now.length<=1000)(hw:ws.length<=1000)(hend:∀g cap u',now.length+1<=cap->(u.tp u'.tape).grownBy u' none->qf 0 u'.heap.size u' (.slice (some ⟨g,0,none⟩) (now.length+1) cap) (now++[x])->qQ u' (.slice (some ⟨g,0,none⟩) (now.length+1) cap) ->EL Ya qh5 f Post W (G ((qhl 136).at ⟨#[(.slice nb now.length nc),y1,(.int .i64 (m+1:Nat)),y3,(.pointer (some Lv)),(.pointer (some Gp)),y6,y7,y8,y9,(.int .i64 i),y11,y12,y13,y14,y15,y16,y17,y18,y19,y20,y21,y22,(.func (.func 136) #[] #[.pointer (some E),.pointer (some Lv),.pointer (some Gp)]),(.slice nb now.length nc),(.slice nb now.length nc),(.int .i64 now.length),(.slice nb now.length nc),(.int .i64 now.length),(.slice nb now.length now.length),(.slice (some ⟨LB,lo,none⟩) ws.length lc),(.int .i64 i),(.pointer (some ⟨LB,lo+i,none⟩)),(.int .i64 x),(.slice (some u.heap.size) 1 1),(.slice (some ⟨g,0,none⟩) (now.length+1) cap),(.int .i64 i),(.int .i64 (i+1:Nat)),(.int .i64 (m+1:Nat)),(.int .i64 m),y40],[]⟩ (.inRegion (q5y (sub [1,1,0,1,0,0,1,0,0,0] (Tryz.f136.body.getD .skip))) [17]::k)) cs) u') :EL Ya qh5 f Post W (G ((qhl 136).at ⟨#[(.slice nb now.length nc),y1,(.int .i64 (m+1:Nat)),y3,(.pointer (some Lv)),(.pointer (some Gp)),y6,y7,y8,y9,(.int .i64 i),y11,y12,y13,y14,y15,y16,y17,y18,y19,y20,y21,y22,y23,y24,y25,y26,y27,y28,y29,y30,y31,y32,y33,y34,y35,y36,y37,y38,y39,y40],[]⟩ (.code (sub [1,1,0,1,0,0,1,0,0,0] (Tryz.f136.body.getD .skip))::k)) cs) u:=by
 have hs:Ya.funcs[(qhl 136).fn]?=Tryz.prog.funcs[(qhl 136).fn]?:=z6 136 (by decide);simp only[qnt,qgH,sub,q5y] at hend ⊢;have HE:=qgv hend;clear hend;refine EL.region_chain D hb hs 17 [17] (by kernel_rfl) (by kernel_rfl) (by kernel_rfl) (by kernel_rfl) λT=>?_;generalize he:zL _ 17=ops';simp only[zL,List.take_succ_cons,List.take_zero,qhu,qia,qla,qnh,qhe,qho,jQ] at he;subst he;have c0:(u.tp T).cell? Gp=some (.func (.func 136) #[] #[.pointer (some E),.pointer (some Lv),.pointer (some Gp)]):=q8 hG.gr rfl;have c1:(u.tp T).cell? Lv=some (.slice (some ⟨LB,lo,none⟩) ws.length lc):=q8 hG.ls rfl;have c2:(u.tp T).cell? ⟨LB,lo+i,none⟩=some (.int .i64 x):=hx;have HN:=qgv (show qf 0 (u.tp T).heap.size (u.tp T) (.slice nb now.length nc) now from hN);clear hN hx;have a9:IntKind.i64.wrap ((i:Int)+1)=((i+1:Nat):Int):=by simp[qmv];omega
 have a8:IntKind.i64.wrap (m:Int)=(m:Int):=by simp only[qmv];omega
 change wpAny _ _ _ _ _ _ _ (World.drew (u.tp T));generalize hv:u.tp T=v at c0 c1 c2 HN ⊢;have HV:=qgv hv;clear hv;have a7:=qgv (show ∀w,v.grownBy w none->w.cell? Gp=some (.func (.func 136) #[] #[.pointer (some E),.pointer (some Lv),.pointer (some Gp)])/\w.cell? Lv=some (.slice (some ⟨LB,lo,none⟩) ws.length lc)/\w.cell? ⟨LB,lo+i,none⟩=some (.int .i64 x) from λw h=>⟨h.cl c0,h.cl c1,h.cl c2⟩);have g1:v.grownBy v.drew none:=qc v none;have g2:=g1.trans (qgw v.drew (.cells #[x] 3) none);refine qgd 17 (λw=>w.cell? Gp=some (.func (.func 136) #[] #[.pointer (some E),.pointer (some Lv),.pointer (some Gp)])/\w.cell? Lv=some (.slice (some ⟨LB,lo,none⟩) ws.length lc)/\w.cell? ⟨LB,lo+i,none⟩=some (.int .i64 x)) (by kernel_rfl) (a7.out _ g1) (λa6=>?_);simp only[qh3,qhc,qhk,qii,qhf,qhq,qhr,qhC,qho,qhe];refine tk 0 (h:=tk 1 (h:=tk 2 (h:=tk 3 (h:=tk 4 (h:=tk 5 (h:=tk 6 (h:=tk 7 (h:=tk 8 (h:=tk 9 (h:=tk 10 (h:=tk 13 (h:=tk 14 (h:=tk 15 (h:=tk 16 (h:=?_)))))))))))))));try go_frame
 refine rdc 11 λK hK=>?_;go_simp;refine hK.out _ _ (a7.out _ g2) (λa6=>?_);clear hK K;try go_frame
 refine rdc 12 λK hK=>?_;refine q7A rfl (.tmp 29) (.tmp 34) rfl (nc:=nc) rfl rfl ((HN.out.kept g2).mono (qgA _) g2.size) (kL _ _ _ _) hl (λcap w' q1 q2 q3 q4=>?_);refine hK.out _ _ (a7.out _ (g2.trans q2)) (λa6=>?_);clear hK K;try go_frame
 refine⟨by kernel_rfl,?_⟩;simp only[qhu,qia];have G9:=qgv (g2.trans q2);rw[show(v.alloc (.cells #[x] 3)).drew.heap.size=v.heap.size+1 from qh6 _ _] at q3 q4;have ⟨Q3,Q4⟩:=qH q3 q4;clear q2 q3 q4 a6 g1 g2;go_wp2;obtain rfl:=HV.out;exact HE.out _ cap w' q1 ⟨G9.out.os,rfl,G9.out.output,G9.out.size,G9.out.block⟩ (Q3.out.mono (qhx _) (qgA _)) Q4.out
end
end
section
open Go Go.RowKit Go.Co Go.Sim Go.Conc Go.ConcN
theorem xf{P:qh2}{a:Act}{w:qgx}{o:qiu}{fv:qhE}{f:qib}{fn:Func}{args:Array qhE}{a6:Array qh8}{ju:Array qgB}(hop:o.op=.call { callee:=.value fv,args,argTypes:=a6 })(hv:a.eval fv=.func (.func f) #[] ju)(hf:P.funcs[f]?=some fn)(hname:(fn.name == "runtime.NumGoroutine")=false)(hb:fn.body.isNone=false):(qk3 a.eval o).run P w=.ok (.enter f (args.map a.eval++ju)) w:=by
 have h1:¬ fn.name = "runtime.NumGoroutine" := by simpa using hname
 have h2:¬ fn.body=none:=by cases hx:fn.body<;>simp_all
 unfold qk3;simp[hop,resolve,Deferred.ofValue,invoke,callFunc,hf,h1,h2,hv]
def Out(w:qgx)(O:Nat)(o:List Int):Prop:=∃b n c,w.heap[O]?=some (.cells #[.slice b n c] 29 (0,0))/\qf 0 w.heap.size w (.slice b n c) o
noncomputable def kf(ps:List Par)(l c:List Int):Bool:=@decide (¬ Jo ps l c) (Classical.propDecidable _)
theorem q3f{ps:List Par}{l c:List Int}{d:Bool}(h:d=true↔Jo ps l c):kf ps l c=!d:=by
 unfold kf;cases d
 ·simpa using λe=>Bool.false_ne_true (h.2 e)
 ·simpa using h.1 rfl
theorem Y0.kept{w w':qgx}{E Lv Gp O Y Lp:Nat}{lb:Option qi5}{lc:Nat}{ws:List Int}(h:Y0 w E Lv Gp O Y Lp lb lc ws)(hg:w.grownBy w' (some O)){b:Option qi5}{n c:Nat}(hO:w.heap[O]?=some (.cells #[.slice b n c] 29 (0,0))):Y0 w' E Lv Gp O Y Lp lb lc ws :=
 ⟨blk hg (λe=>kH h.en hO (by decide) (by cases e;rfl)) h.en,blk hg (λe=>h.neL (by cases e;rfl)) h.ls,(h.wsI.kept_ne hg hO).mono (qgA _) hg.size,blk hg (λe=>kH h.gr hO (by decide) (by cases e;rfl)) h.gr,h.neL⟩
theorem Y0.tp{w:qgx}{E Lv Gp O Y Lp:Nat}{lb:Option qi5}{lc:Nat}{ws:List Int}(h:Y0 w E Lv Gp O Y Lp lb lc ws)(T:Nat->qj1->Nat):Y0 (w.tp T) E Lv Gp O Y Lp lb lc ws:=⟨h.en,h.ls,h.wsI,h.gr,h.neL⟩
theorem gb{w u v:qgx}{r:Option Nat}(h:(w.tp u.tape).grownBy u r)(k:(u.tp v.tape).grownBy v r):(w.tp v.tape).grownBy v r :=
 ⟨k.os.trans h.os,rfl,k.output.trans h.output,qh0 h.size k.size,λi hi hne=>(k.block i (qh7 hi h.size) hne).trans (h.block i hi hne)⟩
theorem qf1{w u:qgx}(r:Option Nat)(h:(w.tp u.tape).grownBy u none):(w.tp u.tape).grownBy u r:=h.but r
theorem Out.kept{w u:qgx}{O:Nat}{o:List Int}(h:Out w O o)(hg:(w.tp u.tape).grownBy u none):Out u O o:=by
 obtain⟨b,n,c,h1,h2⟩:=h;exact⟨b,n,c,bk hg h1,(qf.kept (w:=w.tp u.tape) h2 hg (by simp)).mono (qgA _) hg.size⟩
theorem xL.gr{w u:qgx}{O Y L:Nat}{yb:Option qi5}{ps:List Par}{yc:Nat}{lim:Int}{pb:Option qi5}{l:List Int}{pc:Nat}{o:List Int}(h:xL w O Y L yb ps yc lim pb l pc)(hg:(w.tp u.tape).grownBy u (some O))(ho:Out u O o):xL u O Y L yb ps yc lim pb l pc:=by
 obtain⟨b,n,c,h1,-⟩:=ho;exact(h.tp _).kept hg ⟨b,n,c,h1⟩
theorem Y0.gw{w u:qgx}{E Lv Gp O Y Lp:Nat}{lb:Option qi5}{lc:Nat}{ws o:List Int}(h:Y0 w E Lv Gp O Y Lp lb lc ws)(hg:(w.tp u.tape).grownBy u (some O))(ho:Out w O o):Y0 u E Lv Gp O Y Lp lb lc ws:=by
 obtain⟨b,n,c,h1,-⟩:=ho;exact(h.tp _).kept hg (b:=b) (n:=n) (c:=c) h1
theorem qf.gr{w u:qgx}{O:Nat}{v:qgB}{l o:List Int}(h:qf 0 w.heap.size w v l)(hg:(w.tp u.tape).grownBy u (some O))(ho:Out w O o):qf 0 u.heap.size u v l:=by
 obtain⟨b,n,c,h1,-⟩:=ho;exact(qf.kept_ne (w:=w.tp u.tape) h hg h1).mono (qgA _) hg.size
def GrR(ps:List Par)(l ws:List Int)(O m:Nat)(now:List Int)(from_:Nat)(o0:List Int)(wq:qgx)(v:qgB)(u:qgx):Prop :=
 ∃b o,ja (kf ps l) (zM ws m now from_) o0=(b,o)/\v=.bool b/\(wq.tp u.tape).grownBy u (some O)/\Out u O o
theorem ZT(w:qgx)(r:Option Nat):(w.tp w.tape).grownBy w r:=⟨rfl,rfl,rfl,qgA _,λ_ _ _=>rfl⟩
section
variable[J:JunkSet]{f:qib}{Post:qgB->qgx->Prop}{W:qgx}
theorem qga(D:Two Ya qh5)(hok:JunkSet.okf 137)(g8:∀i,¬ JunkSet.jk i)(hin:Ya.inits.idxOf? f=none)(hfs:∃g,Ya.funcs[f]?=some g/\Tryz.prog.funcs[f]?=some g){ps:List Par}{l ws:List Int}{yb pb lb:Option qi5}{yc pc lc E Lv Gp O Y Lp:Nat}{lim:Int}(e9:ws.length<=1000)(hall:∀c:List Int,(∀y∈c,y∈ws)->c.length<=ws.length->qcg ps l c) :∀(m:Nat) (now:List Int) (from_:Nat) (nb:Option qi5) (nc:Nat) (wq:qgx) (o0:List Int),m+now.length<=ws.length->(∀y∈now,y∈ws)->Y0 wq E Lv Gp O Y Lp lb lc ws->xL wq O Y Lp yb ps yc lim pb l pc->Out wq O o0 ->qf 0 wq.heap.size wq (.slice nb now.length nc) now->qQ wq (.slice nb now.length nc)->now.length<=nc->(now≠[]\/qi1 nb now.length nc=.slice none 0 0)->from_<=1000 ->EC Ya qh5 f Post W 136 #[.slice nb now.length nc,from_,m,.pointer (some E),.pointer (some Lv),.pointer (some Gp)] wq (GrR ps l ws O m now from_ o0 wq):=by
 have hs:Ya.funcs[(qhl 136).fn]?=Tryz.prog.funcs[(qhl 136).fn]?:=z6 136 (by decide);intro m;induction m with
 | zero=>
  intro now from_ nb nc wq o0 hlen b8 hG hW hO hN e7 hnc hne h8;refine EC.of_body1 D (fn:=qnt) (c0:=Tryz.f136.body.getD .skip) (t:=9) Tp.x136 Tryz.func136 (by kernel_rfl) rfl λcs hb b6=>?_;have HR:=qgv b6;clear b6;simp only[qnt,qgH];walk_nrm;refine EL.sp D hb hs λT=>?_;go_wp2;refine EL.tape (wq:=wq) ?_ T;refine EL.seq D hb hs ?_;refine EL.sp D hb hs λT=>?_;go_wp2;refine EL.tape (wq:=wq) ?_ T;refine EL.cond D hb hs true (by rfl) ?_;simp only[if_true];refine EL.seq D hb hs ?_;refine EL.region D hb hs ?_;simp only[qhn,qh3,qhc,qhk,qhf,qht,qi4];have h9:=q8 (o:=0) hG.en rfl;refine EL.list D hb hs [0,1] [_,_] (rest:=[2,3]) rfl λT=>?_;have c1:(wq.tp T).cell? E=some (.func (.func 83) #[] #[.pointer (some O),.pointer (some Y),.pointer (some Lp)]):=h9;go_wp2;refine EL.tape (wq:=wq) ?_ T;refine EL.enter D hb hs (fk:=83) (args:=#[.slice nb now.length nc,.pointer (some O),.pointer (some Y),.pointer (some Lp)]) rfl rfl (λT=>by rw[xf (f:=83) rfl rfl Tp.x83 (by kernel_rfl) rfl];walk_nrm) (z6 83 (by decide)) ?_;refine el83 D hok g8 hin hfs hW hN e7 hne (hall now b8 (by omega)) _ cs hb hs λv u hR=>?_;obtain⟨d,rfl,hd,hg,b,n,c,g7,g6⟩:=hR;rw[qjg];walk_nrm;refine EL.list D hb hs [3] [_] (rest:=[]) rfl λT=>?_;go_wp2;refine EL.tape (wq:=u) ?_ T;refine EL.region_end D hb hs ?_;refine EL.retS D hb hs ?_;refine HR.out _ _ u ⟨!d,now,?_,rfl,hg,b,n,c,g7,g6⟩;simp only[zM,ja,q3f hd];cases d<;>rfl
 | succ m ih=>
  intro now from_ nb nc wq o0 hlen b8 hG hW hO hN e7 hnc hne h8;refine EC.of_body1 D (fn:=qnt) (c0:=Tryz.f136.body.getD .skip) (t:=9) Tp.x136 Tryz.func136 (by kernel_rfl) rfl λcs hb b6=>?_;have HR:=qgv b6;clear b6;have r5:((m:Int)+1 == 0)=false:=by
   rw[beq_eq_false_iff_ne];omega
  have key:∀(d:Nat) (i:Nat) (z:Array qgB) (u:qgx) (o:List Int),d=ws.length - i->i<=1001->z.size=41->z[0]?=some (.slice nb now.length nc)->z[2]?=some (.int .i64 (m+1:Nat))->z[3]?=some (.pointer (some E))->z[4]?=some (.pointer (some Lv))->z[5]?=some (.pointer (some Gp))->z[10]?=some (.int .i64 i) ->
    (wq.tp u.tape).grownBy u (some O)->Out u O o->ja (kf ps l) (zM ws (m+1) now from_) o0=ja (kf ps l) (zM ws (m+1) now i) o ->
    EL Ya qh5 f Post W (G ((qhl 136).at ⟨z,[]⟩ (.code (sub [1,1,0,1,0,0] (Tryz.f136.body.getD .skip))::.inLoop (sub [1,1,0,1,0,0] (Tryz.f136.body.getD .skip))::.inBlock 0::.code (sub [1,1,1] (Tryz.f136.body.getD .skip))::[])) cs) u:=by
   intro d;induction d with
   | zero=>
    intro i z u o hd hi hz h0 h2 h3 h4 h5 c8 hg c3 c9;obtain⟨y0,y1,y2,y3,y4,y5,y6,y7,y8,y9,y10,y11,y12,y13,y14,y15,y16,y17,y18,y19,y20,y21,y22,y23,y24,y25,y26,y27,y28,y29,y30,y31,y32,y33,y34,y35,y36,y37,y38,y39,y40,rfl⟩:=qe5 z hz;clear hz;simp at h0 h2 h3 h4 h5 c8;subst h0 h2 h3 h4 h5 c8;have e8:=qgv c9;have d8:=q8 (o:=0) (hG.gw hg hO).ls rfl;have hni:¬ (i:Int)<(ws.length:Int):=by omega
    have hge:ws.length<=i:=by omega
    clear hd;simp only[qnt,qgH,sub];refine EL.seq D hb hs ?_;refine EL.sp D hb hs λT=>?_;have c1:(u.tp T).cell? Lv=some (.slice lb ws.length lc):=d8;go_wp2;refine EL.tape (wq:=u) ?_ T;refine EL.cond D hb hs false (by rfl) ?_;simp only[if_false,qhy];refine EL.exit D hb hs rfl ?_;refine EL.sp D hb hs λT=>?_;go_wp2;refine EL.tape (wq:=u) ?_ T;refine EL.retS D hb hs ?_;refine HR.out _ _ u ⟨false,o,?_,rfl,hg,c3⟩;rw[c9,q1j (by omega)];rfl
   | succ d ihd=>
    intro i z u o hd hi hz h0 h2 h3 h4 h5 c8 hg c3 c9;obtain⟨y0,y1,y2,y3,y4,y5,y6,y7,y8,y9,y10,y11,y12,y13,y14,y15,y16,y17,y18,y19,y20,y21,y22,y23,y24,y25,y26,y27,y28,y29,y30,y31,y32,y33,y34,y35,y36,y37,y38,y39,y40,rfl⟩:=qe5 z hz;clear hz;simp at h0 h2 h3 h4 h5 c8;subst h0 h2 h3 h4 h5 c8;have e8:=qgv c9;have d5:=hG.gw hg hO;have d8:=q8 (o:=0) d5.ls rfl;have b7:i<ws.length:=by omega
    have hni:(i:Int)<(ws.length:Int):=by omega
    have HD:=qgv hd;clear hd;have k5:=hN.gr hg hO;have H6:=λk (a1 a3 a6 a7 a8 a9 q5 q0 p9 p8 p7 p6 p5 p4 p3 n9 n8 n7 n6 n4 n3 n2 m9 m8 m7 m6 m5 m4 m3 l9 l8 l7 l6 l5 l4 k9:qgB) LB lo' k7 x hx hend=>reg6 (f:=f) (Post:=Post) (W:=W) (cs:=cs) (k:=k) (y1:=a1) (y3:=a3) (y6:=a6) (y7:=a7) (y8:=a8) (y9:=a9) (y11:=q5) (y12:=q0) (y13:=p9) (y14:=p8) (y15:=p7) (y16:=p6) (y17:=p5) (y18:=p4) (y19:=p3) (y20:=n9) (y21:=n8) (y22:=n7) (y23:=n6) (y24:=n4) (y25:=n3) (y26:=n2) (y27:=m9) (y28:=m8) (y29:=m7) (y30:=m6) (y31:=m5) (y32:=m4) (y33:=m3) (y34:=l9) (y35:=l8) (y36:=l7) (y37:=l6) (y38:=l5) (y39:=l4) (y40:=k9) D hb (u:=u) (E:=E) (Lv:=Lv) (Gp:=Gp) (O:=O) (Y:=Y) (Lp:=Lp) (LB:=LB) (lo:=lo') (nb:=nb) (lc:=lc) (nc:=nc) (i:=i) (m:=m) (ws:=ws) (now:=now) (x:=x) k7 k5 hnc b7 hx (by omega) (by omega) e9 hend;simp only[qnt,qgH,sub,q5y] at H6 ihd ⊢;have r3:=qgv H6;clear H6;have q7:=qgv ihd;clear ihd;refine EL.seq D hb hs ?_;refine EL.sp D hb hs λT=>?_;have c1:(u.tp T).cell? Lv=some (.slice lb ws.length lc):=d8;go_wp2;refine EL.tape (wq:=u) ?_ T;refine EL.cond D hb hs true (by rfl) ?_;simp only[if_true];refine EL.skip D hb hs ?_;refine EL.seq D hb hs ?_;refine EL.block D hb hs ?_;refine EL.seq D hb hs ?_;obtain⟨b1,r6,he,-,hcell⟩:=d5.wsI.cell;cases he;obtain⟨LB,lo',rfl,-,-,-,k8⟩:=hcell (by intro e;rw[e] at b7;simp at b7);have hx:=k8 i b7;refine r3.out _ _ _ _ _ _ _ _ _ _ _ _ _ _ _ _ _ _ _ _ _ _ _ _ _ _ _ _ _ _ _ _ _ _ _ _ _ LB lo' d5 _ hx ?_;intro g cap u' q1 q2 q3 q4;generalize e4:ws[i]?.getD 0=x at hx q3 q4;have gU:(u.tp u'.tape).grownBy u' (some O):=qf1 _ q2;have e6:=c3.kept q2;have k6:=d5.gw gU c3;have k0:=(hW.gr hg c3).gr gU e6;have d7:∀y∈now++[x],y∈ws:=by
     intro y hy;rcases qjv.1 hy with h | h
     ·exact b8 y h
     ·obtain rfl:=qjC.1 h;rw[<- e4,qgG b7];exact List.getElem_mem b7
    have b0:(now++[x]).length=now.length+1:=by simp
    have d9:=ih (now++[x]) (i+1) (some ⟨g,0,none⟩) cap u' o (by rw[b0];omega) d7 k6 k0 e6 (by rw[b0];exact q3) (by rw[b0];exact q4) (by rw[b0];exact q1) (.inl (by simp)) (by omega);rw[b0] at d9;have HIH:=qgv d9;clear d9;refine EL.enter D hb hs (fk:=136) (args:=#[.slice (some ⟨g,0,none⟩) (now.length+1) cap,.int .i64 (i+1:Nat),m,.pointer (some E),.pointer (some Lv),.pointer (some Gp)]) rfl rfl (λT=>by rw[xf (f:=136) rfl rfl Tp.x136 (by kernel_rfl) rfl];walk_nrm) (z6 136 (by decide)) ?_;refine HIH.out _ cs hb hs λv u2 hR=>?_;obtain⟨b,o2,g5,rfl,g9,e5⟩:=hR;rw[qjg];walk_nrm;have b9:(wq.tp u2.tape).grownBy u2 (some O):=gb (gb hg gU) g9;have d6:ja (kf ps l) (zM ws (m+1) now from_) o0=if b=true then(b,o2) else ja (kf ps l) (zM ws (m+1) now (i+1)) o2:=by
     rw[e8.out,Zj b7,e4,q0m,g5]
    refine EL.region_end D hb hs ?_;cases b with
    | true=>
     refine EL.cond D hb hs true (by rfl) ?_;simp only[if_true];refine EL.sp D hb hs λT=>?_;go_wp2;refine EL.tape (wq:=u2) ?_ T;refine EL.retS D hb hs ?_;exact HR.out _ _ u2 ⟨true,o2,d6,rfl,b9,e5⟩
    | false=>
     refine EL.cond D hb hs false (by rfl) ?_;simp only[if_false,qhy];refine EL.skip D hb hs ?_;refine EL.inBlock D hb hs ?_;have r4:IntKind.i64.wrap ((i:Int)+1)=((i+1:Nat):Int):=by simp[qmv];omega
     refine EL.piece D hb hs λT=>?_;go_wp2;refine EL.tape (wq:=u2) ?_ T;refine EL.inLoop D hb hs ?_;exact q7.out (i+1) _ u2 o2 (by have:=HD.out;omega) (by omega) (by rfl) (by rfl) (by rfl) (by rfl) (by rfl) (by rfl) (by rfl) b9 e5 d6
  simp only[qnt,qgH,sub] at key ⊢;have q6:=qgv key;clear key;walk_nrm;refine EL.sp D hb hs λT=>?_;go_wp2;refine EL.tape (wq:=wq) ?_ T;refine EL.seq D hb hs ?_;refine EL.sp D hb hs λT=>?_;go_wp2;refine EL.tape (wq:=wq) ?_ T;refine EL.cond D hb hs false (by rfl) ?_;simp only[if_false,qhy];refine EL.skip D hb hs ?_;refine EL.seq D hb hs ?_;refine EL.sp D hb hs λT=>?_;go_wp2;refine EL.tape (wq:=wq) ?_ T;refine EL.block D hb hs ?_;refine EL.loop D hb hs ?_;exact q6.out (ws.length - from_) from_ _ wq o0 rfl (by omega) (by rfl) (by rfl) (by rfl) (by rfl) (by rfl) (by rfl) (by rfl) (ZT _ _) hO rfl
end
end
section
open Go Go.RowKit Go.Co Go.Sim Go.Conc Go.ConcN
theorem qe6(x:Array qgB)(h:x.size=21):∃y0 y1 y2 y3 y4 y5 y6 y7 y8 y9 y10 y11 y12 y13 y14 y15 y16 y17 y18 y19 y20,x=#[y0,y1,y2,y3,y4,y5,y6,y7,y8,y9,y10,y11,y12,y13,y14,y15,y16,y17,y18,y19,y20]:=by
 have e:=QC x;rw[h] at e;exact⟨_,_,_,_,_,_,_,_,_,_,_,_,_,_,_,_,_,_,_,_,_,e.trans rfl⟩
theorem tpg{w u:qgx}{T:Nat->qj1->Nat}{r:Option Nat}(h:(w.tp T).grownBy u r):(w.tp u.tape).grownBy u r:=⟨h.os,rfl,h.output,h.size,h.block⟩
theorem qbh{w u v:qgx}{O:Nat}(h:(w.tp u.tape).grownBy u none)(k:(u.tp v.tape).grownBy v (some O))(hO:w.heap.size<=O):(w.tp v.tape).grownBy v none :=
 ⟨k.os.trans h.os,rfl,k.output.trans h.output,qh0 h.size k.size,λi hi _=>(k.block i (qh7 hi h.size) (by intro e;cases e;exact absurd hi (by show ¬ O<w.heap.size;omega))).trans (h.block i hi (by simp))⟩
theorem xL.knone{w u:qgx}{O Y L:Nat}{yb:Option qi5}{ps:List Par}{yc:Nat}{lim:Int}{pb:Option qi5}{l:List Int}{pc:Nat}(h:xL w O Y L yb ps yc lim pb l pc)(hg:(w.tp u.tape).grownBy u none):xL u O Y L yb ps yc lim pb l pc:=by
 obtain⟨b,n,c,h1⟩:=h.out;exact(h.tp _).kept (hg.but _) ⟨b,n,c,bk hg h1⟩
theorem qf.knone{w u:qgx}{v:qgB}{l:List Int}(h:qf 0 w.heap.size w v l)(hg:(w.tp u.tape).grownBy u none):qf 0 u.heap.size u v l:=(qf.kept (w:=w.tp u.tape) h hg (by simp)).mono (qgA _) hg.size
section
variable[J:JunkSet]{f:qib}{Post:qgB->qgx->Prop}{W:qgx}
theorem el82(D:Two Ya qh5)(hok:JunkSet.okf 137)(k7:∀i,¬ JunkSet.jk i)(hin:Ya.inits.idxOf? f=none)(hfs:∃g,Ya.funcs[f]?=some g/\Tryz.prog.funcs[f]?=some g){ps:List Par}{l ws o0:List Int}{yb pb:Option qi5}{yc pc O Y Lp:Nat}{lim:Int}(k5:ws.length<=1000)(hall:∀c:List Int,(∀y∈c,y∈ws)->c.length<=ws.length->qcg ps l c)(hS:ZZ l ws){wq:qgx}(hW:xL wq O Y Lp yb ps yc lim pb l pc)(hO:Out wq O o0) :EC Ya qh5 f Post W 82 #[.slice pb l.length pc,.func (.func 83) #[] #[.pointer (some O),.pointer (some Y),.pointer (some Lp)]] wq λv u=>∃b o,ja (kf ps l) (yt ws 0) o0=(b,o)/\v=.bool b/\(wq.tp u.tape).grownBy u (some O)/\Out u O o:=by
 have hs:Ya.funcs[(qhl 82).fn]?=Tryz.prog.funcs[(qhl 82).fn]?:=z6 82 (by decide);refine EC.of_body1 D (fn:=qpj) (c0:=Tryz.f82.body.getD .skip) (t:=4) Tp.x82 Tryz.func82 (by kernel_rfl) rfl λcs hb d8=>?_;have HR:=qgv d8;clear d8;have l8:O<wq.heap.size:=by obtain⟨b,n,c,h1⟩:=hW.out;exact(qgy.1 h1).1
 simp only[qpj,qgH];walk_nrm;refine EL.sp D hb hs λT=>?_;go_wp2;obtain⟨Lv,b7⟩:∃Lv,Lv=(wq.tp T).heap.size:=⟨_,rfl⟩;rw[<- b7];have g1:(wq.tp T).grownBy (((wq.tp T).alloc (.cells #[.slice pb l.length pc] 29)).alloc (.cells #[.func (.func 83) #[] #[.pointer (some O),.pointer (some Y),.pointer (some Lp)]] 51)) none:=(qgw _ _ none).trans (qgw _ _ none);have l1:(((wq.tp T).alloc (.cells #[.slice pb l.length pc] 29)).alloc (.cells #[.func (.func 83) #[] #[.pointer (some O),.pointer (some Y),.pointer (some Lp)]] 51)).heap[Lv]?=some (.cells #[.slice pb l.length pc] 29 (0,0)):=by rw[b7];exact qp (qgF (wq.tp T) _)
 have e1:(((wq.tp T).alloc (.cells #[.slice pb l.length pc] 29)).alloc (.cells #[.func (.func 83) #[] #[.pointer (some O),.pointer (some Y),.pointer (some Lp)]] 51)).heap[Lv+1]?=some (.cells #[.func (.func 83) #[] #[.pointer (some O),.pointer (some Y),.pointer (some Lp)]] 51 (0,0)):=by
  have:=qgF ((wq.tp T).alloc (.cells #[.slice pb l.length pc] 29)) (.cells #[.func (.func 83) #[] #[.pointer (some O),.pointer (some Y),.pointer (some Lp)]] 51);rw[qh6] at this;rw[b7];exact this
 generalize ((wq.tp T).alloc (.cells #[.slice pb l.length pc] 29)).alloc (.cells #[.func (.func 83) #[] #[.pointer (some O),.pointer (some Y),.pointer (some Lp)]] 51)=u1 at g1 l1 e1 ⊢;have hg1:=tpg g1;have h8:=hW.ints.knone hg1;clear g1;have HLv:=qgv (show Lv=wq.heap.size from b7);show EL _ _ _ _ _ _ _;clear b7;refine EL.sp D hb hs λT=>?_;have c1:(u1.tp T).cell? Lv=some (.slice pb l.length pc):=q8 l1 rfl;have ⟨HL1,HE1,HG1⟩:=z8 l1 e1 hg1;have g7:=qgv (show qf 0 (u1.tp T).heap.size (u1.tp T) (.slice pb l.length pc) l from h8);have b8:Lv<(u1.tp T).heap.size:=(qgy.1 l1).1;clear l1 e1 hg1 h8;obtain⟨a7,a9⟩:∃a7,a7=u1.tp T:=⟨_,rfl⟩;rw[<- a9] at g7 c1 b8 ⊢;have HU:=qgv a9;clear a9;have g8:a7.frozen? ⟨Lv,0,none⟩=false:=by rw[HU.out];exact qm HL1.out
 go_wp2_with (first
  | (go_at_call 135;refine(Z2 _ _ _ _).mono ?_;rintro e w2 ⟨rfl,rfl⟩)
  | (go_at_call 134;refine(hS a7.heap.size (.slice pb l.length pc) _ (by simp) (by rw[kL];rfl) ((g7.out.alloc _).mono (qgA _) (by simp))).mono ?_;rintro e w2 ⟨v,rfl,e8,d9,a8⟩;obtain⟨lb,lc,rfl,-,-⟩:=e8.cell;have c2:=(((qgw a7 (.cells #[.slice pb l.length pc] 29) none).trans a8).cl c1);have z2:=(((qgw a7 (.cells #[.slice pb l.length pc] 29) none).trans a8).frozen_far _ b8 (by simp)).trans g8;have HI2:=qgv e8;have HG2:=qgv ((qgw a7 (.cells #[.slice pb l.length pc] 29) none).trans a8);have HN2:=qgv d9;clear e8 d9 a8))
 have a6:=qe w2 Lv 0 (.slice lb ws.length lc);have e7:w2.heap[Lv]?=some (.cells #[.slice pb l.length pc] 29 (0,0)):=bk HG2.out (by rw[HU.out];exact HL1.out);have l2:(w2.setCell Lv (.slice lb ws.length lc)).heap[Lv]?=some (.cells #[.slice lb ws.length lc] 29 (0,0)):=by rw[qg e7];rfl
 have l5:=blk (X:=Lv+1) HG2.out (by simp) (by rw[HU.out];exact HE1.out);have e2:=bk a6 l5;have i2:=(HI2.out.kept a6 (λR e=>by cases e;left;rw[qh6];omega)).mono (qhx _) a6.size;have g5:(wq.tp (w2.setCell Lv (.slice lb ws.length lc)).tape).grownBy (w2.setCell Lv (.slice lb ws.length lc)) none:=by
  have a:=HG2.out;rw[HU.out] at a;exact qbh HG1.out (tpg ((a.but (some Lv)).trans a6)) (by rw[HLv.out];exact qgA _)
 show EL _ _ _ _ _ _ _;generalize w2.setCell Lv (.slice lb ws.length lc)=u2 at a6 l2 e2 i2 g5 ⊢;clear e7 HI2 HG2 HN2 c2 z2 a6 g8 HU g7 c1 b8 HG1 HE1 HL1;refine EL.sp D hb hs λT=>?_;go_wp2;obtain⟨Gp,d6⟩:∃Gp,Gp=(u2.tp T).heap.size:=⟨_,rfl⟩;rw[<- d6];have g3:(u2.tp T).grownBy ((u2.tp T).alloc (.cells #[.nilFunc] 151)) none:=qgw _ _ none;have p3:((u2.tp T).alloc (.cells #[.nilFunc] 151)).heap[Gp]?=some (.cells #[.nilFunc] 151 (0,0)):=by rw[d6];exact qgF (u2.tp T) _
 have l3:=bk g3 (show(u2.tp T).heap[Lv]?=_ from l2);have e3:=bk g3 (show(u2.tp T).heap[Lv+1]?=_ from e2);have e9:=gb g5 (tpg g3);have i3:=i2.knone (tpg g3);have m4:Lv<Gp:=by rw[d6];exact(qgy.1 l2).1
 show EL _ _ _ _ _ _ _;generalize (u2.tp T).alloc (.cells #[.nilFunc] 151)=u3 at g3 p3 l3 e3 e9 i3 ⊢;clear g3 l2 e2 i2 d6 g5;refine EL.sp D hb hs λT=>?_;have c3:(u3.tp T).cell? Gp=some .nilFunc:=q8 p3 rfl;have z3:(u3.tp T).frozen? ⟨Gp,0,none⟩=false:=qm p3;have m3:∀(a:qi5) (fn:Fn) (x y:Array qgB) (m:Mode) (w:qgx),(store a (.func fn x y) m).run Ya w=stored Ya w a (.func fn x y) m:=λa fn x y m w=>run_store _ w a _ m rfl;go_wp2;have a6:=qe (u3.tp T) Gp 0 (.func (.func 136) #[] #[.pointer (some (Lv+1:Nat)),.pointer (some Lv),.pointer (some Gp)]);have p4:((u3.tp T).setCell Gp (.func (.func 136) #[] #[.pointer (some (Lv+1:Nat)),.pointer (some Lv),.pointer (some Gp)])).heap[Gp]?=some (.cells #[.func (.func 136) #[] #[.pointer (some (Lv+1:Nat)),.pointer (some Lv),.pointer (some Gp)]] 151 (0,0)):=by
  rw[qg (show(u3.tp T).heap[Gp]?=_ from p3)];rfl
 have l4:=blk a6 (by simp;omega) (show(u3.tp T).heap[Lv]?=_ from l3);have e4:=blk a6 (λe=>kH (show(u3.tp T).heap[Lv+1]?=_ from e3) (show(u3.tp T).heap[Gp]?=_ from p3) (by decide) (by cases e;rfl)) (show(u3.tp T).heap[Lv+1]?=_ from e3);have i4:qf 0 ((u3.tp T).setCell Gp (.func (.func 136) #[] #[.pointer (some (Lv+1:Nat)),.pointer (some Lv),.pointer (some Gp)])).heap.size ((u3.tp T).setCell Gp (.func (.func 136) #[] #[.pointer (some (Lv+1:Nat)),.pointer (some Lv),.pointer (some Gp)])) (.slice lb ws.length lc) ws:=by
  obtain⟨base,cap,e,hl,hr⟩:=i3;refine⟨base,cap,e,hl,λhne=>?_⟩;obtain⟨B,o,cs,fr,e1,e2,e3,e4,e5⟩:=hr hne;exact⟨B,o,cs,fr,e1,e2,qh7 e3 a6.size,blk a6 (λe=>kH (show(u3.tp T).heap[B]?=_ from e4) (show(u3.tp T).heap[Gp]?=_ from p3) (by decide) (by cases e;rfl)) e4,e5⟩
 have c9:=qbh e9 (tpg a6) (by have:=HLv.out;omega);show EL _ _ _ _ _ _ _;generalize (u3.tp T).setCell Gp (.func (.func 136) #[] #[.pointer (some (Lv+1:Nat)),.pointer (some Lv),.pointer (some Gp)])=u4 at a6 p4 l4 e4 i4 c9 ⊢;clear a6 c3 z3 p3 l3 e3 e9 i3;have hG:Y0 u4 (Lv+1) Lv Gp O Y Lp lb lc ws:=⟨e4,l4,i4,p4,by have:=HLv.out;omega⟩;have k9:=hW.knone c9;have g9:=hO.kept c9;have k0:=qgv c9;clear e4 i4 p4 c9;have key:∀(d:Nat) (k:Nat) (z:Array qgB) (u:qgx) (o:List Int),d=ws.length+1 - k->k<=ws.length+1->z.size=21->z[5]?=some (.pointer (some Gp))->z[13]?=some (.int .i64 (ws.length+1:Nat))->z[14]?=some (.int .i64 k) ->
   (u4.tp u.tape).grownBy u (some O)->Out u O o->ja (kf ps l) (yt ws 0) o0=ja (kf ps l) (yt ws k) o ->
   EL Ya qh5 f Post W (G ((qhl 82).at ⟨z,[]⟩ (.code (sub [1,1,1,1,0,1,0,0] (Tryz.f82.body.getD .skip))::.inLoop (sub [1,1,1,1,0,1,0,0] (Tryz.f82.body.getD .skip))::.inBlock 0::.code (sub [1,1,1,1,1] (Tryz.f82.body.getD .skip))::[])) cs) u:=by
  intro d;induction d with
  | zero=>
   intro k z u o hd hk hz h5 c8 b9 hg d5 b0;obtain⟨y0,y1,y2,y3,y4,y5,y6,y7,y8,y9,y10,y11,y12,y13,y14,y15,y16,y17,y18,y19,y20,rfl⟩:=qe6 z hz;clear hz;simp at h5 c8 b9;subst h5 c8 b9;have g6:=qgv b0;have hni:¬ (k:Int)<(ws.length:Int)+1:=by omega
   have hge:ws.length+1<=k:=by omega
   clear hd b0;simp only[qpj,qgH,sub];refine EL.sp D hb hs λT=>?_;go_wp2;refine EL.tape (wq:=u) ?_ T;refine EL.seq D hb hs ?_;refine EL.cond D hb hs false (by rfl) ?_;simp only[if_false,qhy];refine EL.exit D hb hs rfl ?_;refine EL.sp D hb hs λT=>?_;go_wp2;refine EL.tape (wq:=u) ?_ T;refine EL.retS D hb hs ?_;refine HR.out _ _ u ⟨false,o,?_,rfl,gb (qf1 _ k0.out) hg,d5⟩;rw[g6.out,q3g hge];rfl
  | succ d ihd=>
   intro k z u o hd hk hz h5 c8 b9 hg d5 b0;obtain⟨y0,y1,y2,y3,y4,y5,y6,y7,y8,y9,y10,y11,y12,y13,y14,y15,y16,y17,y18,y19,y20,rfl⟩:=qe6 z hz;clear hz;simp at h5 c8 b9;subst h5 c8 b9;have g6:=qgv b0;have hni:(k:Int)<(ws.length:Int)+1:=by omega
   have hlt:k<ws.length+1:=by omega
   have HD:=qgv hd;clear hd b0;have h9:=hG.gw hg g9;have k8:=k9.gr hg d5;simp only[qpj,qgH,sub] at ihd ⊢;have l7:=qgv ihd;clear ihd;refine EL.sp D hb hs λT=>?_;go_wp2;refine EL.tape (wq:=u) ?_ T;refine EL.seq D hb hs ?_;refine EL.cond D hb hs true (by rfl) ?_;simp only[if_true];refine EL.skip D hb hs ?_;refine EL.seq D hb hs ?_;refine EL.block D hb hs ?_;refine EL.sp D hb hs λT=>?_;go_wp2;refine EL.tape (wq:=u) ?_ T;refine EL.seq D hb hs ?_;refine EL.region D hb hs ?_;simp only[qhn,qh3,qhc,qhk,qhf,qht,qi4];refine EL.list D hb hs [0,1] [_,_] (rest:=[2]) rfl λT=>?_;have c1:(u.tp T).cell? Gp=some (.func (.func 136) #[] #[.pointer (some (Lv+1:Nat)),.pointer (some Lv),.pointer (some Gp)]):=q8 h9.gr rfl;go_wp2;refine EL.tape (wq:=u) ?_ T;refine EL.enter D hb hs (fk:=136) (args:=#[.slice none ([]:List Int).length 0,.int .i64 (0:Nat),k,.pointer (some (Lv+1:Nat)),.pointer (some Lv),.pointer (some Gp)]) rfl rfl (λT=>by rw[xf (f:=136) rfl rfl Tp.x136 (by kernel_rfl) rfl];walk_nrm;rfl) (z6 136 (by decide)) ?_;refine qga D hok k7 hin hfs k5 hall k [] 0 none 0 u o (by simp;omega) (by simp) h9 k8 d5 (qf.nil _ _ _) (λad n c e=>by cases e) (qgA _) (.inr rfl) (by omega) _ cs hb hs λv u2 hR=>?_;obtain⟨b,o2,k6,rfl,a8,e6⟩:=hR;rw[qjg];walk_nrm;have b6:(u4.tp u2.tape).grownBy u2 (some O):=gb hg a8;have d7:ja (kf ps l) (yt ws 0) o0=if b=true then(b,o2) else ja (kf ps l) (yt ws (k+1)) o2:=by
    rw[g6.out,J7 hlt,q0m,k6]
   refine EL.region_end D hb hs ?_;cases b with
   | true=>
    refine EL.cond D hb hs true (by rfl) ?_;simp only[if_true];refine EL.sp D hb hs λT=>?_;go_wp2;refine EL.tape (wq:=u2) ?_ T;refine EL.retS D hb hs ?_;exact HR.out _ _ u2 ⟨true,o2,d7,rfl,gb (qf1 _ k0.out) b6,e6⟩
   | false=>
    refine EL.cond D hb hs false (by rfl) ?_;simp only[if_false,qhy];refine EL.skip D hb hs ?_;refine EL.inBlock D hb hs ?_;have l9:IntKind.i64.wrap ((k:Int)+1)=((k+1:Nat):Int):=by simp[qmv];omega
    refine EL.piece D hb hs λT=>?_;go_wp2;refine EL.tape (wq:=u2) ?_ T;refine EL.inLoop D hb hs ?_;exact l7.out (k+1) _ u2 o2 (by have:=HD.out;omega) (by omega) (by rfl) (by rfl) (by rfl) (by rfl) b6 e6 d7
 simp only[qpj,qgH,sub] at key;have l6:=qgv key;clear key;have hwl:IntKind.i64.wrap ((ws.length:Int)+1)=((ws.length+1:Nat):Int):=by simp[qmv];omega
 refine EL.seq D hb hs ?_;refine EL.sp D hb hs λT=>?_;have c4:(u4.tp T).cell? Lv=some (.slice lb ws.length lc):=q8 l4 rfl;go_wp2;refine EL.tape (wq:=u4) ?_ T;refine EL.block D hb hs ?_;refine EL.loop D hb hs ?_;exact l6.out (ws.length+1) 0 _ u4 o0 rfl (by omega) (by rfl) (by rfl) (by rfl) (by rfl) (ZT _ _) g9 rfl
end
end
section
open Go Go.RowKit Go.Co Go.Sim Go.Conc Go.ConcN
theorem qn.knone{w u:qgx}{v:qgB}{l:List Par}(h:qn 0 w.heap.size w v l)(hg:(w.tp u.tape).grownBy u none):qn 0 u.heap.size u v l:=(qn.kept (w:=w.tp u.tape) h hg (by simp)).mono (qgA _) hg.size
theorem qQ.knone{w u:qgx}{v:qgB}(h:qQ w v)(hg:(w.tp u.tape).grownBy u none):qQ u v:=λad n c e=>by
 obtain⟨cs,e1,f,h1,h2⟩:=h ad n c e;exact⟨cs,e1,f,bk hg h1,h2⟩
section
variable[J:JunkSet]{f:qib}{Post:qgB->qgx->Prop}{W:qgx}
theorem EC.of_body2(D:Two Ya qh5){fk:qib}{fn:Func}{c0:qje}{args:Array qgB}{wq:qgx}{R:qgB->qgx->Prop}{t t':Nat}(hf:Ya.funcs[fk]?=some fn)(hp:Tryz.prog.funcs[fk]?=some fn)(a7:fn.body=some c0)(hr:fn.results=#[.tmp t,.tmp t'])(h:∀cs,Bot f cs->(∀tm todo u,R (.tuple #[tm.getD t qgD,tm.getD t' qgD]) u->EL Ya qh5 f Post W (G { (qhl fk).at ⟨tm,[]⟩ todo with mode:=.returning } cs) u) ->EL Ya qh5 f Post W (G ((qhl fk).at ⟨args++qi0 (fn.ntmps - args.size) qgD,[]⟩ [.code c0]) cs) wq):EC Ya qh5 f Post W fk args wq R :=
 EC.of_body D hf hp a7 λcs hb a6=>h cs hb λtm todo u hR=>a6 ⟨tm,[]⟩ todo u _ rfl (λT=>results_tmp2 hr _ _ _) hR
theorem el29(D:Two Ya qh5)(hok:JunkSet.okf 137)(c9:∀i,¬ JunkSet.jk i)(hin:Ya.inits.idxOf? f=none)(hfs:∃g,Ya.funcs[f]?=some g/\Tryz.prog.funcs[f]?=some g){ps:List Par}{l ws:List Int}{yb pb:Option qi5}{yc pc:Nat}{lim:Int}(b9:ws.length<=1000)(hall:∀c:List Int,(∀y∈c,y∈ws)->c.length<=ws.length->qcg ps l c)(hS:ZZ l ws)(hY:YOk ps lim)(hP:POk ps lim l){wq:qgx}(pars:qn 0 wq.heap.size wq (.slice yb ps.length yc) ps)(yi:qQ wq (.slice yb ps.length yc))(ints:qf 0 wq.heap.size wq (.slice pb l.length pc) l)(pi:qQ wq (.slice pb l.length pc))(h0:qT wq 0) :EC Ya qh5 f Post W 29 #[.agg #[.slice yb ps.length yc,lim],.slice pb l.length pc] wq λv u=>∃o s,v=.tuple #[s,.int .i64 0]/\(∃b,ja (kf ps l) (yt ws 0) []=(b,o))/\(wq.tp u.tape).grownBy u none/\qf 0 u.heap.size u s o:=by
 have hs:Ya.funcs[(qhl 29).fn]?=Tryz.prog.funcs[(qhl 29).fn]?:=z6 29 (by decide);refine EC.of_body2 D (fn:=Tryz.f29) (c0:=Tryz.f29.body.getD .skip) (t:=4) (t':=5) Tp.x29 Tryz.func29 (by kernel_rfl) rfl λcs hb a8=>?_;have HR:=qgv a8;clear a8;simp only[Tryz.f29,qgH];walk_nrm;refine EL.sp D hb hs λT=>?_;go_wp2;obtain⟨X,hX⟩:∃X,X=(wq.tp T).heap.size:=⟨_,rfl⟩;rw[<- hX];have g1:(wq.tp T).grownBy (((wq.tp T).alloc (.cells #[.slice yb ps.length yc,lim] 24)).alloc (.cells #[.slice pb l.length pc] 29)) none:=(qgw _ _ none).trans (qgw _ _ none);have x1:(((wq.tp T).alloc (.cells #[.slice yb ps.length yc,lim] 24)).alloc (.cells #[.slice pb l.length pc] 29)).heap[X]?=some (.cells #[.slice yb ps.length yc,lim] 24 (0,0)):=by rw[hX];exact qp (qgF (wq.tp T) _)
 have p1:(((wq.tp T).alloc (.cells #[.slice yb ps.length yc,lim] 24)).alloc (.cells #[.slice pb l.length pc] 29)).heap[X+1]?=some (.cells #[.slice pb l.length pc] 29 (0,0)):=by
  have:=qgF ((wq.tp T).alloc (.cells #[.slice yb ps.length yc,lim] 24)) (.cells #[.slice pb l.length pc] 29);rw[qh6] at this;rw[hX];exact this
 show EL _ _ _ _ _ _ _;generalize ((wq.tp T).alloc (.cells #[.slice yb ps.length yc,lim] 24)).alloc (.cells #[.slice pb l.length pc] 29)=u1 at g1 x1 p1 ⊢;have hg1:=tpg g1;clear g1;have HX:=qgv (show X=wq.heap.size from hX);clear hX;refine EL.sp D hb hs λT=>?_;have c1:(u1.tp T).cell? X=some (.slice yb ps.length yc):=q8 x1 rfl;have c2:(u1.tp T).cell? ⟨X,1,none⟩=some (.int .i64 lim):=q8 x1 rfl;have c3:(u1.tp T).cell? (X+1:Nat)=some (.slice pb l.length pc):=q8 p1 rfl;have b7:=qgv (show qn 0 (u1.tp T).heap.size (u1.tp T) (.slice yb ps.length yc) ps from(show qn 0 u1.heap.size u1 (.slice yb ps.length yc) ps from pars.knone hg1));have b8:=qgv (show qf 0 (u1.tp T).heap.size (u1.tp T) (.slice pb l.length pc) l from(show qf 0 u1.heap.size u1 (.slice pb l.length pc) l from ints.knone hg1));go_wp2_with (go_at_call 81;refine(xh 0 _ _ _ ps lim l _ b7.out b8.out (qgA _) hY hP).mono ?_;rintro e w2 ⟨rfl,b6⟩;have HG2:=qgv b6;clear b6);obtain⟨Y,a9⟩:∃Y,Y=w2.heap.size:=⟨_,rfl⟩;rw[<- a9];have ga:(u1.tp T).grownBy (w2.alloc (.cells #[.slice yb ps.length yc,lim] 91)) none:=HG2.out.trans (qgw _ _ none);have b0:=gb hg1 (tpg ga);have y2:(w2.alloc (.cells #[.slice yb ps.length yc,lim] 91)).heap[Y]?=some (.cells #[.slice yb ps.length yc,lim] 91 (0,0)):=by rw[a9];exact qgF _ _
 have p2:=bk ga (show(u1.tp T).heap[X+1]?=_ from p1);show EL _ _ _ _ _ _ _;generalize w2.alloc (.cells #[.slice yb ps.length yc,lim] 91)=u2 at ga b0 y2 p2 ⊢;clear ga a9 HG2 c1 c2 c3 b7 b8 x1 p1 hg1;refine EL.seq D hb hs ?_;refine EL.sp D hb hs λT=>?_;go_wp2;refine EL.tape (wq:=u2) ?_ T;refine EL.cond D hb hs false (by rfl) ?_;simp only[if_false,qhy];refine EL.skip D hb hs ?_;refine EL.sp D hb hs λT=>?_;go_wp2;obtain⟨O,a7⟩:∃O,O=(u2.tp T).heap.size:=⟨_,rfl⟩;rw[<- a7];have ga:(u2.tp T).grownBy ((u2.tp T).alloc (.cells #[.slice none 0 0] 29)) none:=qgw _ _ none;have a6:=gb b0 (tpg ga);have o3:((u2.tp T).alloc (.cells #[.slice none 0 0] 29)).heap[O]?=some (.cells #[.slice none 0 0] 29 (0,0)):=by rw[a7];exact qgF _ _
 have y3:=bk ga (show(u2.tp T).heap[Y]?=_ from y2);have p3:=bk ga (show(u2.tp T).heap[X+1]?=_ from p2);have hne:O≠X+1:=by
  have h1:=(qgy.1 (show(u2.tp T).heap[X+1]?=_ from p2)).1;omega
 show EL _ _ _ _ _ _ _;generalize (u2.tp T).alloc (.cells #[.slice none 0 0] 29)=u3 at ga a6 y3 p3 o3 ⊢;have e4:=qgv a7;clear ga y2 p2 a7;have d9:Out u3 O []:=⟨none,0,0,o3,qf.nil _ _ _⟩;have d7:xL u3 O Y (X+1) yb ps yc lim pb l pc:=⟨⟨_,_,_,o3⟩,y3,p3,hne,pars.knone a6,yi.knone a6,ints.knone a6,pi.knone a6,by
  obtain⟨cs,e,g,h0,d5⟩:=h0;exact⟨cs,e,g,bk a6 h0,d5⟩⟩
 refine EL.seq D hb hs ?_;refine EL.region D hb hs ?_;simp only[qhn,qh3,qhc,qhk,qhf,qht,qi4];refine EL.list D hb hs [0,1] [_,_] (rest:=[2]) rfl λT=>?_;have c1:(u3.tp T).cell? (X+1:Nat)=some (.slice pb l.length pc):=q8 p3 rfl;go_wp2;refine EL.tape (wq:=u3) ?_ T;refine EL.enter D hb hs (fk:=82) (args:=#[.slice pb l.length pc,.func (.func 83) #[] #[.pointer (some O),.pointer (some Y),.pointer (some (X+1:Nat))]]) rfl rfl (λT=>by rw[qm9 (f:=82) rfl Tp.x82 (by kernel_rfl) rfl];walk_nrm) (z6 82 (by decide)) ?_;refine el82 D hok c9 hin hfs b9 hall hS d7 d9 _ cs hb hs λv u hR=>?_;obtain⟨b,o,c8,rfl,d6,d8⟩:=hR;rw[qjg];walk_nrm;refine EL.region_end D hb hs ?_;refine EL.sp D hb hs λT=>?_;obtain⟨ob,on,oc,o4,i4⟩:=d8;have c1:(u.tp T).cell? O=some (.slice ob on oc):=q8 o4 rfl;go_wp2;refine EL.tape (wq:=u) ?_ T;refine EL.retS D hb hs ?_;exact HR.out _ _ u ⟨o,_,rfl,⟨b,c8⟩,qbh a6 d6 (by have h1:=b0.size;have h2:(wq.tp u2.tape).heap.size=wq.heap.size:=rfl;have h3:=e4.out;rw[h3];exact h1),i4⟩
end
end
section
open Go.RowKit
theorem q8D(pv:qgB)(ps:List Par)(lim:Int)(w:qgx)(hP:qn 0 w.heap.size w pv ps)(hok:YOk ps lim)(z3:∀x:List Int,x.Nodup->(∀y∈x,0<=y/\y<ps.length)->POk ps lim x)(x6:∀p∈ps,p.tall<=lim)(hN:((yt (jD ps.length) 0).flatMap Jg).length<=1000)(SL:List (List Int))(B7:SL=vI ps (yt (jD ps.length) 0))(C1:SL.length<=12)(H8:SL≠[])(B5:∀s∈zF SL.length SL,s≠[]/\∀x∈s,0<=x/\x<5)(f:Nat)(n7:f<=100)(R:List (List Int))(hf:qbk f (zF SL.length SL) (zc (jD ps.length)) [([],0)]=some (some R)) :qhw Ya 63 #[.agg #[pv,lim]] w λe w'=>∃v,e=.returned (.tuple #[v,.int .i64 0])/\w.grownBy w' none/\RowsIn 0 w'.heap.size w' v R:=by
 obtain⟨i0,A9,x5,x4,x3⟩:=qjj Tp.info133p;obtain⟨yb,yc,rfl,M7,-⟩:=hP.cell;have ⟨HP,HOK,HPO,HTL,HN,HSL,HF,HSS⟩:=qbe hP hok z3 x6 hN B7 hf B5;clear hP hok z3 x6 hN B7 hf B5;go_enter Tp.x63,Tryz.ntmps63;go_wp2;refine wp_scope_straight ?_;go_upto_region 4 with(go_at_call 81;refine(xh 0 w.heap.size _ _ ps lim [] _ (HP.out.kept (qgw _ _ none)) (qf.nil _ _ _) (by simp) HOK.out (POk.nil ps HOK.out.l1)).mono ?_;rintro e w2 ⟨rfl,C8⟩;have HG2:=qgv ((qgw w (.cells #[.slice yb ps.length yc,lim] 24) none).trans C8);clear C8);obtain⟨Y,v3⟩:∃Y,Y=w2.heap.size:=⟨_,rfl⟩;obtain⟨w3,q7⟩:∃w3,w3=w2.alloc (.cells #[.slice yb ps.length yc,lim] 91):=⟨_,rfl⟩;rw[<- v3,<- q7];have p4:w3.heap[Y]?=some (.cells #[.slice yb ps.length yc,lim] 91 (0,0)):=by rw[q7,v3];exact qgF _ _
 have s4:w.grownBy w3 none:=HG2.out.trans (by rw[q7];exact qgw _ _ none);have ⟨HY3,HG3⟩:=qH p4 s4;have q0:=q8 p4 (o:=0) rfl;have q1:=q8 p4 (o:=1) rfl;have D5:=qgv ((HP.out.kept s4).mono (qgA _) s4.size);clear v3 q7 p4 s4;go_wp2;go_loopw [29] (λiv wr=>∃k:Nat,iv=.int .i64 k/\k<=ps.length/\w3.grownBy wr none) (λiv _=>(ps.length - qi9 iv).toNat)
 case atStart=>exact⟨0,rfl,by omega,qh1 _ _⟩
 case round=>
  obtain⟨k,rfl,hk,hG⟩:=hrel;have HG:=qgv hG;have x2:=D5.out.kept hG;have E6:=hG.cl q0;have E5:=hG.cl q1;have H0:Y<wr.heap.size:=by have:=qx HY3.out;have:=hG.size;omega
  clear hG;by_cases hlt:k<ps.length
  ·obtain⟨b2,c2,he,-,hc⟩:=x2.cell;cases he;obtain⟨YB,yo,rfl,N9,N8,p4,k7⟩:=hc (by intro e;rw[e] at hlt;simp at hlt);obtain⟨p,hp,p0,p1,p2,p3⟩:=k7 k (by omega);have N4:=HTL.out p (qhg hp);have A7:(k:Int)<(ps.length:Int):=by omega
   clear hc k7 hp x2;go_wp2;go_roundw
   case rel=>exact⟨k+1,by simp,by omega,HG.out.trans (qgw _ _ _)⟩
   case measure=>simp[qi9];omega
  ·obtain rfl:k=ps.length:=by omega
   clear x2;go_upto_region 11 with(fail);obtain⟨Sg,v6⟩:∃Sg,Sg=wr.heap.size:=⟨_,rfl⟩;obtain⟨w4,q6⟩:∃w4,w4=wr.alloc (.cells #[.slice none 0 0] 36):=⟨_,rfl⟩;rw[<- v6,<- q6];have D1:w4.heap[Sg]?=some (.cells #[.slice none 0 0] 36 (0,0)):=by rw[q6,v6];exact qgF _ _
   have p8:w3.grownBy w4 none:=HG.out.trans (by rw[q6];exact qgw _ _ none);have k7:=bk p8 HY3.out;have N1:w.heap.size<=Sg:=by have:=HG3.out.size;have:=HG.out.size;omega
   have ⟨HB4,HY4⟩:=qH D1 k7;have HG4:=qgv (HG3.out.trans p8);have HP4:=qgv ((HP.out.kept (HG3.out.trans p8)).mono (qgA _) (HG3.out.trans p8).size);have c0:=q8 k7 (o:=0) rfl;have c1:=q8 k7 (o:=1) rfl;clear v6 q6 D1 p8 k7 HY3 q0 q1 E6 E5 H0;have hn:ps.length<=1000:=by have:=HOK.out.len;omega
   go_upto_region 12 with(first
    | (go_at_call 100;refine(Q9 yb ps.length yc lim w4 hn).mono ?_;rintro e w5 ⟨v5,rfl,C7,x0⟩;obtain⟨b5,k5,e5,-,-⟩:=x0.cell;rw[zI] at e5;subst e5;have HG5:=qgv C7;have HI5:=qgv x0;clear C7 x0)
    | (go_at_call 82;refine(qdi (bk HG5.out HY4.out) ((HP4.out.kept HG5.out).mono (qgA _) HG5.out.size) (bk HG5.out HB4.out) HOK.out HPO.out HN.out (HI5.out.mono (qhx _) (qgA _))).mono ?_;rintro e w6 ⟨rfl,G6,C9⟩;have g5:=qgv C9;clear C9))
   obtain⟨SB,sc,e8,B9,l9⟩:=g5.out.rows (by rw[<- HSL.out];exact H8) (by rw[<- HSL.out];omega);rw[<- HSL.out] at e8 l9;have c8:w.grownBy w6 none:=⟨g5.out.os.trans (HG4.out.trans HG5.out).os,g5.out.tape.trans (HG4.out.trans HG5.out).tape,g5.out.output.trans (HG4.out.trans HG5.out).output,qh0 (HG4.out.trans HG5.out).size g5.out.size,λk hk _=>(g5.out.keep k (qh7 hk (HG4.out.trans HG5.out).size) (by omega)).trans ((HG4.out.trans HG5.out).block k hk (by simp))⟩;have v4:w6.heap[Y]?=_:=(g5.out.keep Y (qx (bk HG5.out HY4.out)) (λe=>by have h:=HY4.out;rw[e,HB4.out] at h;injection h with h;injection h with _ h _;exact absurd h (by decide))).trans (bk HG5.out HY4.out);have F5:=l9;obtain⟨P0,m4,-⟩:=F5;have B8:SB<w6.heap.size:=qx m4;have ⟨HG6,HY6,HS6,HR6⟩:=zY c8 v4 e8 l9;have E7:w.heap.size<=SB:=by have:=(HG4.out.trans HG5.out).size;omega
   have B6:SB≠Sg:=λe=>by rw[e,e8] at m4;injection m4 with h;injection h with _ h _;exact absurd h (by decide)
   have v7:SB≠Y:=λe=>by rw[e,v4] at m4;injection m4 with h;injection h with _ h _;exact absurd h (by decide)
   have D8:=qgv (show w5.heap.size<=SB from B9);have c6:=q8 e8 (o:=0) rfl;clear c8 v4 e8 l9 B9 c0 c1 g5 m4;go_upto_region 13 with(go_at_call 121;refine(qaj _ _ SB 0 sc SL w6 HR6.out (qgA _) C1).mono ?_;rintro e w7 ⟨rfl,C6,C3⟩;have HG7:=qgv C6;have D3:=qgv C3;clear C6 C3);have r9:=blk HG7.out (by simpa using λe=>v7 e.symm) HY6.out;have C0:=blk HG7.out (by simpa using λe=>B6 e.symm) HS6.out;have ⟨HY7,HS7⟩:=qH r9 C0;have d7:w.grownBy w7 none:=xH HG6.out HG7.out E7;have HG8:=qgv d7;have d0:=q8 r9 (o:=0) rfl;have d1:=q8 r9 (o:=1) rfl;clear r9 C0 c6 d7;have h5:∀x∈jD ps.length,0<=x/\x<5:=λx hx=>by have:=q3F hx;have:=HOK.out.len;omega
   have H5:=qgv h5;clear h5;go_upto_region 14 with(first
    | (go_at_call 100;refine(Q9 yb ps.length yc lim w7 hn).mono ?_;rintro e w9 ⟨v9,rfl,C5,w8⟩;obtain⟨b9,k9,e9,-,-⟩:=w8.cell;rw[zI] at e9;subst e9;have s5:=qgv C5;have D9:=qgv w8;clear C5 w8)
    | (go_at_call 123;refine(q0F _ _ _ _ w9 D9.out H5.out).mono ?_;rintro e M3 ⟨rfl,rfl⟩))
   obtain⟨S,hS⟩:∃S,S=zF SL.length SL:=⟨_,rfl⟩;have k8:S.length=SL.length:=by rw[hS,JI]
   rw[<- hS] at HF HSS;obtain⟨al,B4⟩:∃al,al=zc (jD ps.length):=⟨_,rfl⟩;rw[<- B4] at HF ⊢;have C2:RowsIn 0 w9.heap.size w9 (.slice (some SB) S.length sc) S:=by
    have h1:zf w5.heap.size w6.heap.size SB 0 w7 S:=by rw[hS];exact D3.out
    have h2:=h1.rows B8 D8.out (by omega) sc;exact(h2.kept s5.out).mono (qhx _) (qh0 HG7.out.size s5.out.size)
   rw[<- k8] at HS7;have B3:w.grownBy w9 none:=HG8.out.trans s5.out;have u5:=bk s5.out HS7.out;have c9:=q8 u5 (o:=0) rfl;have M1:=qx u5;have ⟨HRS,HGZ,HSLEN⟩:=z8 C2 B3 k8;have p5:S.length<=12:=by omega
   clear hS B4 C2 B3 u5 k8 HSL HTL HN HPO HP D5 HP4 HB4 HY4 HY6 HS6 HR6 D3 HI5 D9 HG2 HG3 HG4 HG5 HG6 HG7 HG8 HG d0 d1 D8 H5;go_upto_region 15 with(fail);have D0:q6r S al R (.slice (some w9.heap.size) 1 1) (w9.alloc (.cells #[.slice none 0 0,.int .u8 0] 133)) f:=by
    refine⟨[([],0)],⟨_,1,rfl,λ_=>⟨w9.heap.size,0,_,_,rfl,by simp,qgF _ _,λi hi=>?_⟩⟩,⟨by simp,λp hp=>?_⟩,λp hp=>?_,HF.out⟩
    ·obtain rfl:i=0:=by simp at hi;omega
     exact⟨([],0),_,_,rfl,rfl,rfl,⟨none,0,rfl,by simp,λh=>absurd rfl h⟩,rfl,λa n c e=>by cases e;omega⟩
    ·obtain rfl:p=([],0):=by simpa using hp
     simp
    ·obtain rfl:p=([],0):=by simpa using hp
     simpa using n7
   have L0:=qgv D0;clear D0;refine wp_label ?_;go_wp2;go_loopw [10] (λnv wr=>(∃m,m<=100/\q6r S al R nv wr m)/\w9.grownBy wr none) (λnv wr=>q6D S al R nv wr)
   case atStart=>exact⟨⟨f,n7,L0.out⟩,qgw _ _ none⟩
   case round=>
    obtain⟨wo,rfl⟩:∃x,x=wr:=⟨wr,rfl⟩;obtain⟨⟨m,hm,hP⟩,hg⟩:=hrel;have hQ:=q5z hm hP;have F9:=q3v hm hP;obtain⟨m0,v0⟩:∃m0,m0=q6D S al R u10 wo:=⟨_,rfl⟩;rw[<- v0] at hQ F9;obtain⟨recs,m3,m8,x8,l8⟩:=hQ;have z1:=m3;obtain⟨nb,nc,rfl,-⟩:=z1;cases m0 with
    | zero=>cases l8
    | succ n=>
     simp only[qbk] at l8;have ⟨HM0,HG,HRE,HROK,HRL,HFEW⟩:=Kh v0 hg m3 m8 x8 l8;have F4:=m8.1;have F8:n<100:=by omega
     clear hm hP hg v0 m3 m8 x8 l8;go_wp2;go_loopw [11,53] (λnx iv wq=>∃k:Nat,iv=.int .i64 k/\k<=recs.length/\(∀p∈recs.take k,p.2≠al)/\wo.grownBy wq none/\jG wo.heap.size wq nx (jo S (recs.take k))) (λ_ iv _=>(recs.length - qi9 iv).toNat)
     case atStart=>exact⟨0,rfl,by omega,by simp,qh1 _ _,jG.nil _ _⟩
     case round=>
      obtain⟨k,rfl,hk,A3,v2,g9⟩:=hrel;have q4:=qgv v2;have d6:=v2;have ⟨HNO,HNX⟩:=qH A3 g9;clear v2 A3 g9;by_cases hlt:k<recs.length
      ·obtain⟨RB,ro,p,pa,pn,pc,rfl,z5,z4,r1,r2,r3,r4⟩:=HRE.out.at hlt;have G9:=d6.cl r1;have G7:=d6.cl r2;have A7:(k:Int)<(recs.length:Int):=by omega
       obtain⟨a7,a8⟩:=p;dsimp only at r1 r2 r3 r4 z4;subst z4;have D2:=(HG.out.trans d6).cl c9;have M0:Sg<wr.heap.size:=by have:=(HG.out.trans d6).size;omega
       go_upto_region 19 with(fail);obtain⟨Pb,s3⟩:∃Pb,Pb=wr.heap.size:=⟨_,rfl⟩;obtain⟨w1,r5⟩:∃w1,w1=wr.alloc (.cells #[.slice pa a7.length pc,.int .u8 (a8:Nat)] 133):=⟨_,rfl⟩;rw[<- s3,<- r5];have e6:wr.grownBy w1 none:=by rw[r5];exact qgw _ _ none
       have l6:w1.heap[Pb]?=some (.cells #[.slice pa a7.length pc,.int .u8 (a8:Nat)] 133 (0,0)):=by rw[r5,s3];exact qgF _ _
       have b0:=q8 l6 (o:=0) rfl;have b1:=q8 l6 (o:=1) rfl;have K1:=e6.cl D2;have D4:=qgv r3;have HR3:=qgv ((r3.kept (d6.trans e6)).mono (qgA _) (d6.trans e6).size);have ⟨HPB1,HGW1,HPbs,HPK⟩:=zY l6 e6 s3 z5;clear l6 r5 e6 s3 r1 r2 r3 G9 G7 z5 D2 d6;by_cases u7:a8=al
       ·subst u7;go_wp2;rw[Exit.noGoto_ret];go_ret2;have b8:=HFEW.out;rw[Ym (λp:Rec=>p.2 == a8) recs k _ HPK.out (by simp) (λi y hi hy=>by
         have:=HNO.out y (qhg (by rw[qiz hi];exact hy));simpa using this)] at b8
        simp only[qhH] at b8;exact⟨_,rfl,HGZ.out.trans (HG.out.trans (q4.out.trans HGW1.out)),by rw[<- b8];exact HR3.out⟩
       ·have L4:((a8:Int) == (al:Int))=false:=by rw[beq_eq_false_iff_ne];omega
        have K6:=qgv u7;clear u7;obtain⟨wp,hwp⟩:∃x,x=wr:=⟨wr,rfl⟩;have t5:wo.grownBy w1 none:=q4.out.trans HGW1.out;have L2:wo.heap.size<=Pb:=by have:=q4.out.size;have:=HPbs.out;omega
        have A6:∀g,u11.ownBlock=some g->g≠Pb:=λg e=>by
         obtain⟨C,h1,-,-⟩:=HNX.out;have:=(h1.lt g e).2;have:=HPbs.out;omega
        have D7:=qgv (HNX.out.kept HGW1.out);have ⟨HGO1,HNB⟩:=qH t5 A6;clear hwp t5 A6 HNX HGW1 q4 HPbs;go_wp2;clear b0 b1 K1;go_loopw [11,65] (λnx iv wq=>∃j:Nat,iv=.int .i64 j/\j<=S.length/\wo.grownBy wq none/\wq.heap[Pb]?=some (.cells #[.slice pa a7.length pc,.int .u8 (a8:Nat)] 133 (0,0))/\(∀g,nx.ownBlock=some g->g≠Pb)/\jG wo.heap.size wq nx (jo S (recs.take k)++((S.take j).filter (okF (a7,a8))).map (QI (a7,a8)))) (λ_ iv _=>(S.length - qi9 iv).toNat)
        case atStart=>exact⟨0,rfl,by omega,HGO1.out,HPB1.out,HNB.out,by simpa using D7.out⟩
        case round=>
         obtain⟨j,rfl,hj,h8,d9,t4,t3⟩:=hrel;have N7:=q8 (o:=0) d9 rfl;have L9:=q8 (o:=1) d9 rfl;have ⟨HGJ,HPBJ,HNBJ,HNXJ⟩:=zY h8 d9 t4 t3;have L1:=h8.size;have M2:=qx d9;clear d9 t4 t3;by_cases v1:j<S.length
         ·obtain⟨M5,M4,eS,-,s1⟩:=(HRS.out.kept (HG.out.trans h8)).cell;cases eS;obtain⟨P1,so,eS,-,-,-,s1⟩:=s1 (by intro e;rw[e] at v1;simp at v1);cases eS;obtain⟨s,x,u0,E8,r6⟩:=s1 j v1;rw[qhf] at E8;obtain⟨xb,xc,rfl,-,s9⟩:=r6.cell;obtain⟨s8,x7⟩:=HSS.out s (qhg u0);obtain⟨XB,xo,rfl,-,-,-,g6⟩:=s9 s8;have t9:0<s.length:=ql4.2 s8;have g6:=g6 0 t9;have L8:(j:Int)<(S.length:Int):=by omega
          have E0:(0:Int)<(s.length:Int):=by omega
          have m7:=λC (h:World.grownBy _ C none)=>q0F _ _ _ s C (r6.kept h) x7;have u9:=xm s 5 λy hy=>by have:=x7 y hy;omega
          have l7:okF (a7,a8) s=(!(decide (0<a7.length) && decide (JK s<=JK (q79 a7))) && decide (a8 &&& zc s=0)):=rfl;have m9:=(HROK.out.2 _ (qhg HPK.out)).2.1;have c3:=q9a ⟨a8,m9⟩ ⟨zc s,u9⟩;have hor:=qc0 ⟨a8,m9⟩ ⟨zc s,u9⟩;have n8:QI (a7,a8) s=(a7++[s],a8 ||| zc s):=rfl;simp only at c3 hor m9;rw[show s[0]?.getD 0=JK s from rfl] at g6;generalize zc s=ms at m7 u9 l7 c3 hor n8;generalize JK s=hs at g6 l7;have t6:(S.take (j+1)).filter (okF (a7,a8))=(S.take j).filter (okF (a7,a8))++(if okF (a7,a8) s=true then[s] else[]):=by
           rw[qig,u0,qn3];simp[List.filter_cons]
          have ⟨HFIL,HSET,HOKF,HAND,HOR,HEXT,HSI⟩:=q62 t6 m7 l7 c3 hor n8 r6;have p9:=qgv ((D4.out.kept h8).mono (qgA _) h8.size);clear t6 m7 l7 c3 hor n8 r6 s1 u0 h8 s9;have n9:okF (a7,a8) s=false->∀C,wr.grownBy C none->jG wo.heap.size C u11 (jo S (recs.take k)++((S.take (j+1)).filter (okF (a7,a8))).map (QI (a7,a8))):=λe C h=>by
           rw[HFIL.out,e];simpa using HNXJ.out.kept h
          have l5:=qgv n9;clear n9;have s6:w9.heap.size<=wr.heap.size:=(HG.out.trans HGJ.out).size;have t2:=HRL.out _ (qhg HPK.out);dsimp only at t2;have L3:a7.length<=100:=by omega
          clear t2;by_cases r7:0<a7.length
          ·have F6:(0:Int)<(a7.length:Int):=by omega
           rw[show decide (0<a7.length)=true by simpa using r7] at HOKF;simp only[qou] at HOKF;obtain⟨lb,lc,el,-,r8⟩:=p9.out.cell;cases el;obtain⟨LB,lo,rfl,-,-,-,r8⟩:=r8 (by intro e;rw[e] at r7;simp at r7);obtain⟨r,x,m3,N3,z0⟩:=r8 (a7.length - 1) (by omega);have n4:q79 a7=r:=by unfold q79;rw[m3];rfl
           have z2:=(HROK.out.2 _ (qhg HPK.out)).1 r (qhg m3);obtain⟨t1,-⟩:=HSS.out r z2;obtain⟨rb,rc,rfl,-,g7⟩:=z0.cell;obtain⟨QB,qo,rfl,-,-,-,g7⟩:=g7 t1;have u6:0<r.length:=ql4.2 t1;have g7:=g7 0 u6;rw[Nat.add_zero] at g7;have g6:=g6;rw[Nat.add_zero] at g6;rw[n4] at HOKF;rw[show r[0]?.getD 0=JK r from rfl] at g7;have E3:(0:Int)<(r.length:Int):=by omega
           have N0:IntKind.i64.wrap ((a7.length:Int) - 1)=(a7.length:Int) - 1:=qhp _ (by omega);have hnt:((a7.length:Int) - 1).toNat=a7.length - 1:=by omega
           have L6:(0:Int)<=(a7.length:Int) - 1:=by omega
           have L5:(a7.length:Int) - 1<(a7.length:Int):=by omega
           generalize JK r=hr at g7 HOKF;clear r8 n4 z2 z0;by_cases hle:hs<=hr
           ·have hok:okF (a7,a8) s=false:=by rw[HOKF.out];simp[hle]
            have b7:=qgv hok;clear hok;go_upto_region 25 with(fail);go_quiet (first | (go_at_call 123;refine qiH ((HSET.out _ (qi _ _ none)).mono (λe w5 h=>⟨h.1,h.2.symm⟩))));go_wp2;exact⟨⟨j+1,by simp,by omega,HGJ.out.trans (qi _ _ none),HPBJ.out,HNBJ.out,l5.out b7.out _ (qi _ _ none)⟩,by simp[qi9];omega⟩
           ·rw[show decide (hs<=hr)=false by simpa using hle] at HOKF;simp only[qmg,qou] at HOKF;by_cases hz:a8 &&& ms=0
            ·have t7:(((a8 &&& ms:Nat):Int) != 0)=false:=by rw[hz];rfl
             have hok:okF (a7,a8) s=true:=by rw[HOKF.out];simpa using hz
             have b7:=qgv hok;have c3:=HAND.out;clear hz hok;go_upto_region 25 with(fail);go_quiet (first | (go_at_call 123;refine qiH ((HSET.out _ (qi _ _ none)).mono (λe w5 h=>⟨h.1,h.2.symm⟩))));go_upto_region 26 with(fail);have k0:=qi wr nq none;have t8:wr.heap.size=(wr.drewN nq).heap.size:=rfl;generalize wr.drewN nq=wa at k0 t8 ⊢;have h9:wr.grownBy wa.drew none:=k0.trans (qc wa none);have g8:=bk h9 HPBJ.out;have s0:wa.drew.cell? Pb=some (.slice (some ⟨LB,lo,none⟩) a7.length pc)/\wa.drew.cell? ⟨Pb,1,none⟩=some (.int .u8 (a8:Nat)):=⟨q8 g8 rfl,q8 g8 rfl⟩;have m6:=s0.1;have m5:=s0.2;obtain⟨C,n1,n2,n3⟩:=HNXJ.out;obtain⟨oa,om,oc,eo⟩:=zt n1;subst eo;have ⟨HGD,HN1,HN2,HN3⟩:=zY h9 n1 n2 n3;have hor:=HOR.out;have z7:(a7.length:Int)<=(pc:Int):=by omega
             have A4:(0:Int)<=(a7.length:Int):=by omega
             have v8:(jo S (recs.take k)++((S.take j).filter (okF (a7,a8))).map (QI (a7,a8))).length<=20000:=by
              have h1:=q14 S (recs.take k);have h2:=qk5 (okF (a7,a8)) (S.take j);have h3:(recs.take k).length*S.length<=1000*12:=Nat.mul_le_mul (by rw[qjz];omega) p5;rw[qio,qkw];rw[qjz] at h2;omega
             generalize p6:(jo S (recs.take k)++((S.take j).filter (okF (a7,a8))).map (QI (a7,a8)))=RR at HN1 HN2 HN3 v8;have x1:=qgv p6;have hlo:wo.heap.size<=wa.heap.size:=by have:=HGJ.out.size;omega
             clear k0 h9 g8 n1 n2 n3 p6;refine qJ 21 (λw'=>w'.cell? Pb=some (.slice (some ⟨LB,lo,none⟩) a7.length pc)/\w'.cell? ⟨Pb,1,none⟩=some (.int .u8 (a8:Nat))) (by kernel_rfl) (by kernel_rfl) s0 (λa6=>?_);simp only[qh3,qhc,qhk,qii,qhf,qhq,qhr,qhC,qho,qhe];refine tk 0 (h:=tk 1 (h:=tk 2 (h:=tk 3 (h:=tk 4 (h:=tk 5 (h:=tk 6 (h:=tk 7 (h:=tk 8 (h:=tk 9 (h:=tk 10 (h:=tk 13 (h:=tk 14 (h:=tk 15 (h:=?_))))))))))))));try go_frame
             refine rdc 11 λK hK=>?_;go_simp;refine hK.out _ _ (by first | exact a6 | exact s7 | exact s2 | exact⟨(qgw _ _ none).cl a6.1,(qgw _ _ none).cl a6.2⟩) (λa6=>?_);refine rdc 12 λK hK=>?_;have hgb:wr.grownBy (wa.drew.alloc (.cells #[.slice (some ⟨XB,xo,none⟩) s.length xc] 29)) none:=HGD.out.trans (qgw _ _ none);refine Yz rfl (.tmp 105) (.tmp 107) rfl (nc:=pc) (B:=wa.heap.size) (y:=.slice (some ⟨XB,xo,none⟩) s.length xc) (l:=s) (by rfl) (by rfl) ((p9.out.kept hgb).mono (qgA _) hgb.size) (kL wa.drew _ _ _) ((HSI.out.kept hgb).mono (qhx _) (qh0 s6 hgb.size)) (by omega) (λg cap w2 q2 q3 q5=>?_);have k6:=hgb.trans q2;have s2:w2.cell? Pb=some (.slice (some ⟨LB,lo,none⟩) a7.length pc)/\w2.cell? ⟨Pb,1,none⟩=some (.int .u8 (a8:Nat)):=⟨q2.cl ((qgw wa.drew _ none).cell m6 (by simp)),q2.cl ((qgw wa.drew _ none).cell m5 (by simp))⟩;have ⟨HG2,HQ3,HQ5⟩:=z8 k6 q3 q5;have E9:wa.heap.size<=w2.heap.size:=by have:=k6.size;omega
             clear hgb q2 q3 q5 k6;refine hK.out _ _ (by first | exact a6 | exact s7 | exact s2 | exact⟨(qgw _ _ none).cl a6.1,(qgw _ _ none).cl a6.2⟩) (λa6=>?_);refine rdc 16 λK hK=>?_;go_simp;go_at_call 123;refine(HSET.out w2 HG2.out).mono ?_;rintro e w3 ⟨rfl,rfl⟩;refine hK.out _ _ (by first | exact a6 | exact s7 | exact s2 | exact⟨(qgw _ _ none).cl a6.1,(qgw _ _ none).cl a6.2⟩) (λa6=>?_);refine tk 17 (h:=tk 18 (h:=?_));try go_frame
             refine rdc 19 λK hK=>?_;go_simp;refine hK.out _ _ (by first | exact a6 | exact s7 | exact s2 | exact⟨(qgw _ _ none).cl a6.1,(qgw _ _ none).cl a6.2⟩) (λa6=>?_);refine rdc 20 λK hK=>?_;have p7:=jL (C:=w2) HN1.out (λg e=>HG2.out.block g (HN1.out.lt g e).2 (by simp));refine step_append_lies _ (by rfl) _ _ _ (by rfl) wo.heap.size 133 i0 _ 2 32 Tp.und134 A9 x5 x4 x3 rfl (by omega) (.slice oa om oc) RR.length (Jd C) (by rfl) (by exact p7.alloc _) ⟨w2.heap.size,0,none⟩ 1 1 [.slice (some ⟨g,0,none⟩) (a7.length+1) cap,.int .u8 ((a8 ||| ms:Nat):Int)] (by rfl) (by rfl) (qiw (cs:=#[.slice (some ⟨g,0,none⟩) (a7.length+1) cap,.int .u8 ((a8 ||| ms:Nat):Int)]) (t:=133) (fr:=(0,0)) (qgF w2 _)) (by simp[qjk]) (by omega) (by unfold qkq;omega) (by omega) (by simp;omega) (w2.heap.size+1) (by simp) ?_;intro g' cp w7 d5 a9 e7 n6;have h6:(w2.alloc (.cells #[.slice (some ⟨g,0,none⟩) (a7.length+1) cap,.int .u8 ((a8 ||| ms:Nat):Int)] 133)).grownBy w7 (qi1 oa om oc).ownBlock:=⟨a9.os,a9.tape,a9.output,a9.size,a9.block⟩;have c8:=HG2.out.trans (qgw w2 (.cells #[.slice (some ⟨g,0,none⟩) (a7.length+1) cap,.int .u8 ((a8 ||| ms:Nat):Int)] 133) none);have d7:wr.grownBy w7 (qi1 oa om oc).ownBlock:=(c8.but _).trans h6;have b6:=blk d7 (λe=>HNBJ.out _ e.symm rfl) HPBJ.out;have s7:w7.cell? Pb=some (.slice (some ⟨LB,lo,none⟩) a7.length pc)/\w7.cell? ⟨Pb,1,none⟩=some (.int .u8 (a8:Nat)):=⟨q8 b6 rfl,q8 b6 rfl⟩;have l4:=jL (C:=w2.alloc (.cells #[.slice (some ⟨g,0,none⟩) (a7.length+1) cap,.int .u8 ((a8 ||| ms:Nat):Int)] 133)) HN1.out (λg e=>c8.block g (HN1.out.lt g e).2 (by simp));have d8:vV (w2.alloc (.cells #[.slice (some ⟨g,0,none⟩) (a7.length+1) cap,.int .u8 ((a8 ||| ms:Nat):Int)] 133)) (.slice (some ⟨g,0,none⟩) (a7.length+1) cap) (.int .u8 ((a8 ||| ms:Nat):Int)) (a7++[s],a8 ||| ms):=⟨(HQ3.out.kept (qgw w2 _ none)).mono (qgA _) (qgw w2 _ none).size,rfl,λa n c e=>by cases e;exact HQ5.out⟩;have e4:=jG.push l4 HN2.out (λi p x e1 e2=>(HN3.out i p x e1 e2).kept c8) h6 d5 (d8.app l4 h6);have ⟨HNX7,HG7,HP7,HA7⟩:=zY e4 d7 b6 e7;clear d5 a9 e7 n6 h6 c8 d7 b6 p7 l4 d8 e4;refine hK.out _ _ (by first | exact a6 | exact s7 | exact s2 | exact⟨(qgw _ _ none).cl a6.1,(qgw _ _ none).cl a6.2⟩) (λa6=>?_);try go_frame
             refine⟨by kernel_rfl,?_⟩;simp only[qhu,qia];clear s0 m6 m5 s2 s7 a6;go_wp2;refine⟨⟨j+1,by simp,by omega,HGJ.out.andThen HG7.out (λi e=>.inl (HN1.out.lt i e).1),HP7.out,λi e=>?_,?_⟩,by simp[qi9];omega⟩
             ·obtain rfl:g'=i:=by simpa[qhB] using e
              rcases HA7.out with h | h
              ·exact HNBJ.out _ h
              ·have:=HG2.out.size;omega
             ·rw[HFIL.out,if_pos b7.out,qji,<- qjp,x1.out,show List.map (QI (a7,a8)) [s]=[QI (a7,a8) s] from rfl,HEXT.out];exact HNX7.out
            ·have t7:(((a8 &&& ms:Nat):Int) != 0)=true:=by simpa using hz
             have hok:okF (a7,a8) s=false:=by rw[HOKF.out];simpa using hz
             have b7:=qgv hok;have c3:=HAND.out;clear hz hok;go_upto_region 25 with(fail);go_quiet (first | (go_at_call 123;refine qiH ((HSET.out _ (qi _ _ none)).mono (λe w5 h=>⟨h.1,h.2.symm⟩))));go_wp2;exact⟨⟨j+1,by simp,by omega,HGJ.out.trans (qi _ _ none),HPBJ.out,HNBJ.out,l5.out b7.out _ (qi _ _ none)⟩,by simp[qi9];omega⟩
          ·have F6:¬ (0:Int)<(a7.length:Int):=by omega
           rw[show decide (0<a7.length)=false by simpa using r7] at HOKF;simp only[Bool.false_and,qmg,qou] at HOKF;by_cases hz:a8 &&& ms=0
           ·have t7:(((a8 &&& ms:Nat):Int) != 0)=false:=by rw[hz];rfl
            have hok:okF (a7,a8) s=true:=by rw[HOKF.out];simpa using hz
            have b7:=qgv hok;have c3:=HAND.out;clear hz hok;go_upto_region 25 with(fail);go_quiet (first | (go_at_call 123;refine qiH ((HSET.out _ (qi _ _ none)).mono (λe w5 h=>⟨h.1,h.2.symm⟩))));go_upto_region 26 with(fail);have k0:=qi wr nq none;have t8:wr.heap.size=(wr.drewN nq).heap.size:=rfl;generalize wr.drewN nq=wa at k0 t8 ⊢;have h9:wr.grownBy wa.drew none:=k0.trans (qc wa none);have g8:=bk h9 HPBJ.out;have s0:wa.drew.cell? Pb=some (.slice pa a7.length pc)/\wa.drew.cell? ⟨Pb,1,none⟩=some (.int .u8 (a8:Nat)):=⟨q8 g8 rfl,q8 g8 rfl⟩;have m6:=s0.1;have m5:=s0.2;obtain⟨C,n1,n2,n3⟩:=HNXJ.out;obtain⟨oa,om,oc,eo⟩:=zt n1;subst eo;have ⟨HGD,HN1,HN2,HN3⟩:=zY h9 n1 n2 n3;have hor:=HOR.out;have z7:(a7.length:Int)<=(pc:Int):=by omega
            have A4:(0:Int)<=(a7.length:Int):=by omega
            have v8:(jo S (recs.take k)++((S.take j).filter (okF (a7,a8))).map (QI (a7,a8))).length<=20000:=by
             have h1:=q14 S (recs.take k);have h2:=qk5 (okF (a7,a8)) (S.take j);have h3:(recs.take k).length*S.length<=1000*12:=Nat.mul_le_mul (by rw[qjz];omega) p5;rw[qio,qkw];rw[qjz] at h2;omega
            generalize p6:(jo S (recs.take k)++((S.take j).filter (okF (a7,a8))).map (QI (a7,a8)))=RR at HN1 HN2 HN3 v8;have x1:=qgv p6;have hlo:wo.heap.size<=wa.heap.size:=by have:=HGJ.out.size;omega
            clear k0 h9 g8 n1 n2 n3 p6;refine qJ 21 (λw'=>w'.cell? Pb=some (.slice pa a7.length pc)/\w'.cell? ⟨Pb,1,none⟩=some (.int .u8 (a8:Nat))) (by kernel_rfl) (by kernel_rfl) s0 (λa6=>?_);simp only[qh3,qhc,qhk,qii,qhf,qhq,qhr,qhC,qho,qhe];refine tk 0 (h:=tk 1 (h:=tk 2 (h:=tk 3 (h:=tk 4 (h:=tk 5 (h:=tk 6 (h:=tk 7 (h:=tk 8 (h:=tk 9 (h:=tk 10 (h:=tk 13 (h:=tk 14 (h:=tk 15 (h:=?_))))))))))))));try go_frame
            refine rdc 11 λK hK=>?_;go_simp;refine hK.out _ _ (by first | exact a6 | exact s7 | exact s2 | exact⟨(qgw _ _ none).cl a6.1,(qgw _ _ none).cl a6.2⟩) (λa6=>?_);refine rdc 12 λK hK=>?_;have hgb:wr.grownBy (wa.drew.alloc (.cells #[.slice (some ⟨XB,xo,none⟩) s.length xc] 29)) none:=HGD.out.trans (qgw _ _ none);refine Yz rfl (.tmp 105) (.tmp 107) rfl (nc:=pc) (B:=wa.heap.size) (y:=.slice (some ⟨XB,xo,none⟩) s.length xc) (l:=s) (by rfl) (by rfl) ((p9.out.kept hgb).mono (qgA _) hgb.size) (kL wa.drew _ _ _) ((HSI.out.kept hgb).mono (qhx _) (qh0 s6 hgb.size)) (by omega) (λg cap w2 q2 q3 q5=>?_);have k6:=hgb.trans q2;have s2:w2.cell? Pb=some (.slice pa a7.length pc)/\w2.cell? ⟨Pb,1,none⟩=some (.int .u8 (a8:Nat)):=⟨q2.cl ((qgw wa.drew _ none).cell m6 (by simp)),q2.cl ((qgw wa.drew _ none).cell m5 (by simp))⟩;have ⟨HG2,HQ3,HQ5⟩:=z8 k6 q3 q5;have E9:wa.heap.size<=w2.heap.size:=by have:=k6.size;omega
            clear hgb q2 q3 q5 k6;refine hK.out _ _ (by first | exact a6 | exact s7 | exact s2 | exact⟨(qgw _ _ none).cl a6.1,(qgw _ _ none).cl a6.2⟩) (λa6=>?_);refine rdc 16 λK hK=>?_;go_simp;go_at_call 123;refine(HSET.out w2 HG2.out).mono ?_;rintro e w3 ⟨rfl,rfl⟩;refine hK.out _ _ (by first | exact a6 | exact s7 | exact s2 | exact⟨(qgw _ _ none).cl a6.1,(qgw _ _ none).cl a6.2⟩) (λa6=>?_);refine tk 17 (h:=tk 18 (h:=?_));try go_frame
            refine rdc 19 λK hK=>?_;go_simp;refine hK.out _ _ (by first | exact a6 | exact s7 | exact s2 | exact⟨(qgw _ _ none).cl a6.1,(qgw _ _ none).cl a6.2⟩) (λa6=>?_);refine rdc 20 λK hK=>?_;have p7:=jL (C:=w2) HN1.out (λg e=>HG2.out.block g (HN1.out.lt g e).2 (by simp));refine step_append_lies _ (by rfl) _ _ _ (by rfl) wo.heap.size 133 i0 _ 2 32 Tp.und134 A9 x5 x4 x3 rfl (by omega) (.slice oa om oc) RR.length (Jd C) (by rfl) (by exact p7.alloc _) ⟨w2.heap.size,0,none⟩ 1 1 [.slice (some ⟨g,0,none⟩) (a7.length+1) cap,.int .u8 ((a8 ||| ms:Nat):Int)] (by rfl) (by rfl) (qiw (cs:=#[.slice (some ⟨g,0,none⟩) (a7.length+1) cap,.int .u8 ((a8 ||| ms:Nat):Int)]) (t:=133) (fr:=(0,0)) (qgF w2 _)) (by simp[qjk]) (by omega) (by unfold qkq;omega) (by omega) (by simp;omega) (w2.heap.size+1) (by simp) ?_;intro g' cp w7 d5 a9 e7 n6;have h6:(w2.alloc (.cells #[.slice (some ⟨g,0,none⟩) (a7.length+1) cap,.int .u8 ((a8 ||| ms:Nat):Int)] 133)).grownBy w7 (qi1 oa om oc).ownBlock:=⟨a9.os,a9.tape,a9.output,a9.size,a9.block⟩;have c8:=HG2.out.trans (qgw w2 (.cells #[.slice (some ⟨g,0,none⟩) (a7.length+1) cap,.int .u8 ((a8 ||| ms:Nat):Int)] 133) none);have d7:wr.grownBy w7 (qi1 oa om oc).ownBlock:=(c8.but _).trans h6;have b6:=blk d7 (λe=>HNBJ.out _ e.symm rfl) HPBJ.out;have s7:w7.cell? Pb=some (.slice pa a7.length pc)/\w7.cell? ⟨Pb,1,none⟩=some (.int .u8 (a8:Nat)):=⟨q8 b6 rfl,q8 b6 rfl⟩;have l4:=jL (C:=w2.alloc (.cells #[.slice (some ⟨g,0,none⟩) (a7.length+1) cap,.int .u8 ((a8 ||| ms:Nat):Int)] 133)) HN1.out (λg e=>c8.block g (HN1.out.lt g e).2 (by simp));have d8:vV (w2.alloc (.cells #[.slice (some ⟨g,0,none⟩) (a7.length+1) cap,.int .u8 ((a8 ||| ms:Nat):Int)] 133)) (.slice (some ⟨g,0,none⟩) (a7.length+1) cap) (.int .u8 ((a8 ||| ms:Nat):Int)) (a7++[s],a8 ||| ms):=⟨(HQ3.out.kept (qgw w2 _ none)).mono (qgA _) (qgw w2 _ none).size,rfl,λa n c e=>by cases e;exact HQ5.out⟩;have e4:=jG.push l4 HN2.out (λi p x e1 e2=>(HN3.out i p x e1 e2).kept c8) h6 d5 (d8.app l4 h6);have ⟨HNX7,HG7,HP7,HA7⟩:=zY e4 d7 b6 e7;clear d5 a9 e7 n6 h6 c8 d7 b6 p7 l4 d8 e4;refine hK.out _ _ (by first | exact a6 | exact s7 | exact s2 | exact⟨(qgw _ _ none).cl a6.1,(qgw _ _ none).cl a6.2⟩) (λa6=>?_);try go_frame
            refine⟨by kernel_rfl,?_⟩;simp only[qhu,qia];clear s0 m6 m5 s2 s7 a6;go_wp2;refine⟨⟨j+1,by simp,by omega,HGJ.out.andThen HG7.out (λi e=>.inl (HN1.out.lt i e).1),HP7.out,λi e=>?_,?_⟩,by simp[qi9];omega⟩
            ·obtain rfl:g'=i:=by simpa[qhB] using e
             rcases HA7.out with h | h
             ·exact HNBJ.out _ h
             ·have:=HG2.out.size;omega
            ·rw[HFIL.out,if_pos b7.out,qji,<- qjp,x1.out,show List.map (QI (a7,a8)) [s]=[QI (a7,a8) s] from rfl,HEXT.out];exact HNX7.out
           ·have t7:(((a8 &&& ms:Nat):Int) != 0)=true:=by simpa using hz
            have hok:okF (a7,a8) s=false:=by rw[HOKF.out];simpa using hz
            have b7:=qgv hok;have c3:=HAND.out;clear hz hok;go_upto_region 25 with(fail);go_quiet (first | (go_at_call 123;refine qiH ((HSET.out _ (qi _ _ none)).mono (λe w5 h=>⟨h.1,h.2.symm⟩))));go_wp2;exact⟨⟨j+1,by simp,by omega,HGJ.out.trans (qi _ _ none),HPBJ.out,HNBJ.out,l5.out b7.out _ (qi _ _ none)⟩,by simp[qi9];omega⟩
         ·obtain rfl:j=S.length:=by omega
          have N6:¬ (S.length:Int)<(S.length:Int):=by omega
          clear h8;go_wp2;refine⟨⟨k+1,by simp,by omega,λq hq=>?_,HGJ.out,?_⟩,by simp[qi9];omega⟩
          ·rw[qig,HPK.out] at hq;rcases qjv.1 hq with h | h
           ·exact HNO.out q h
           ·simp at h;subst h;exact K6.out
          ·rw[q5D HPK.out];have:=HNXJ.out;rw[qis] at this;exact this
      ·obtain rfl:k=recs.length:=by omega
       have hnt:(recs.find? λp=>p.2 == al)=none:=qlk.2 λp hp=>by have:=HNO.out p (by rw[qis];exact hp);simpa using this
       have b8:=HFEW.out;rw[hnt] at b8;have A8:(jo S recs).length<=1000:=by
        refine qhF λh=>?_;simp only[if_neg h] at b8;cases b8
       simp only[if_pos A8] at b8;have hne:jo S recs≠[]:=λh=>by
        rw[if_pos h] at b8;cases b8
       rw[if_neg hne] at b8;have g9:=HNX.out;rw[qis] at g9;have C4:∀W v,Qp W v (jo S recs)->q6r S al R v W n:=λW v hr=>by
        refine⟨_,hr,⟨A8,λq hq=>?_⟩,λq hq=>?_,b8⟩
        ·obtain⟨p,hp,s,hs,rfl⟩:=q1a hq;have h1:=(HROK.out.2 p hp);have h2:=HRL.out p hp;have h3:=xm s 5 λy hy=>by have:=(HSS.out s hs).2 y hy;omega
         refine⟨λr hr=>?_,Nat.or_lt_two_pow (n:=5) h1.2.1 h3,by simp[QI];omega⟩;rcases qjv.1 hr with h | h
         ·exact h1.1 r h
         ·rw[qjC.1 h];exact hs
        ·obtain⟨p,hp,s,hs,rfl⟩:=q1a hq;have h2:=HRL.out p hp;simp[QI];omega
       have A0:=C4 wr u11 g9.recs;obtain⟨xb,xc,hx,-⟩:=g9.recs;have hxl:(jo S recs).length≠0:=λh=>hne (qim h);generalize (jo S recs).length=xl at hx hxl;subst hx;have D6:=qgv A0;have M9:((xl:Int) == 0)=false:=by rw[beq_eq_false_iff_ne];omega
       clear A0 C4 b8 g9 hne;go_wp2;exact⟨⟨⟨n,by omega,D6.out⟩,HG.out.trans q4.out⟩,Nat.lt_of_le_of_lt (q3v (by omega) D6.out) (by rw[<- HM0.out];omega)⟩
end
section
open Go Go.RowKit Go.Co
theorem yJ{n:Int}(h:0<=n/\n<=30):YOk (z9 n) 6:=⟨by simp[z9],λp hp=>by
 simp only[z9,qix,qiF,or_false] at hp;rcases hp with rfl | rfl | rfl | rfl<;>(dsimp only;omega),by omega,by omega⟩
theorem vu(n:Int):(z9 n).length=4:=rfl
theorem q3c(n:Int):∀(x:List Int),(∀y∈x,0<=y/\y<4)->∀a:Int,(x.map (jr (z9 n))).foldl (·+·) a=a+(2*(x.count 0:Int)+2*(x.count 1:Int)+(x.count 2:Int)+(x.count 3:Int))
 | [],_,a=>by simp
 | y::t,h,a=>by
  have ih:=q3c n t (λz hz=>h z (by simp[hz]));have hy:=h y (by simp);simp only[qla,List.foldl_cons];rw[ih];obtain rfl | rfl | rfl | rfl:y=0\/y=1\/y=2\/y=3:=by omega
  all_goals simp[qpa,jr,z9];try omega
theorem ZX{x:List Int}(h:x.Nodup)(a:Int):x.count a<=1:=by
 induction x with
 | nil=>simp
 | cons y t ih=>
  rw[List.nodup_cons] at h;rw[qpa];by_cases e:y=a
  ·subst e;have:=List.count_eq_zero.2 h.1;simp[this]
  ·simp[e];exact ih h.2
theorem Yo{n:Int}(x:List Int)(hn:x.Nodup)(hx:∀y∈x,0<=y/\y<(z9 n).length):POk (z9 n) 6 x:=by
 have h4:∀y∈x,0<=y/\y<4:=λy hy=>by have:=hx y hy;rw[vu] at this;omega
 have hs:=q3c n x h4 0;have c0:=ZX hn 0;have c1:=ZX hn 1;have c2:=ZX hn 2;have c3:=ZX hn 3;refine⟨hx,hn,?_,?_⟩
 ·unfold qK;rw[hs];omega
 ·have key:∀(x:List Int),(∀y∈x,0<=y/\y<4)->x.length=x.count 0+x.count 1+x.count 2+x.count 3:=by
   intro x;induction x with
   | nil=>simp
   | cons y t ih=>
    intro h;have:=ih (λz hz=>h z (by simp[hz]));have hy:=h y (by simp);obtain rfl | rfl | rfl | rfl:y=0\/y=1\/y=2\/y=3:=by omega
    all_goals simp[qpa];omega
  have:=key x h4;omega
theorem Yh(n:Int):POk (z9 n) 6 [0,1,2]:=Yo _ (by decide) (by simp[vu])
theorem qd1(n:Int):POk (z9 n) 6 [2,1,0]:=Yo _ (by decide) (by simp[vu])
theorem qbt:zD (z9 12) [0,1,2]=[(6,9),(2,3),(0,0)]:=by kernel_rfl
theorem q8H:q1H (z9 8) [0,1,2]=3:=by kernel_rfl
theorem qbs:Ze (z9 8) [0,1,2]=.tuple #[.agg #[.int .i64 (-1),.int .i64 2],.int .i64 0]:=by kernel_rfl
theorem qdm:q19 (z9 12) 6 3 10 [zR [2,1,0]] [zR [2,1,0]] 0=some (some (3,[0,1,2])):=by kernel_rfl
theorem qdl:(jX (z9 12) 6 (yt (jD (z9 12).length) 0)).2=[0,1,2]:=by kernel_rfl
theorem q91:vI (z9 8) (yt (jD (z9 8).length) 0)=[[0],[1],[2],[3],[0,1],[0,2],[0,3],[1,2],[1,3]]:=by kernel_rfl
def exS:List (List Int):=[[0],[1],[2],[3],[0,1],[0,2],[0,3],[1,2],[1,3]]
theorem qf7:qbk 10 (zF exS.length exS) (zc (jD (z9 8).length)) [([],0)]=some (some [[0,2],[1,3]]):=by kernel_rfl
theorem q90:∀s∈zF exS.length exS,s≠[]/\∀x∈s,0<=x/\x<5:=by decide
def Kq(ps:List Par)(l wl:List Int):Bool:=(qht (q6m ps wl)).any λi=>qz ps (ovr (q0f ps wl i) (pre Par.mn ps ps.length) wl wl.length) l && !qz ps (ovr (q0f ps wl i) (pre Par.mx ps ps.length) wl wl.length) l
theorem q4u(ps:List Par)(l wl:List Int):Kq ps l wl=true↔Jo ps l wl:=by
 unfold Kq Jo;rw[List.any_eq_true];constructor
 ·rintro⟨i,h1,h2⟩;exact⟨i,qjq.1 h1,h2⟩
 ·rintro⟨i,h1,h2⟩;exact⟨i,qjq.2 h1,h2⟩
theorem q9G(ps:List Par)(l c:List Int):kf ps l c=!Kq ps l c:=q3f (q4u ps l c)
theorem qbr:ja (kf (z9 8) [0,1,2]) (yt [0,1,2] 0) []=(true,[1,2]):=by
 have e:kf (z9 8) [0,1,2]=λc=>!Kq (z9 8) [0,1,2] c:=funext λc=>q9G _ _ _;have h:ja (λc=>!Kq (z9 8) [0,1,2] c) (yt [0,1,2] 0) []=(true,[1,2]):=by kernel_rfl
 exact(congrArg (λp=>ja p (yt [0,1,2] 0) []) e).trans h
end
section
open Go.RowKit
theorem yr(n:Int)(w:qgx):qhw Ya 80 #[.int .i64 n] w λe w'=>∃v,e=.returned (.agg #[v,.int .i64 6])/\w.grownBy w' none/\qn w.heap.size w'.heap.size w' v (z9 n)/\∀(ad:qi5) (m c:Nat),v=.slice (some ad) m c->∃cs e f,w'.heap[ad.block]?=some (.cells cs e f)/\∀(i:Nat) u,cs[i]?=some u->∃k m,u=.int k m:=by
 obtain⟨A,hA⟩:∃A,A=w.heap.size:=⟨_,rfl⟩;obtain⟨w1,a6⟩:∃w1,w1=w.alloc (.cells #[.slice none 0 0,.int .i64 0] 24):=⟨_,rfl⟩;have hR:w1.heap[A]?=some (.cells #[.slice none 0 0,.int .i64 0] 24 (0,0)):=by rw[a6,hA];exact qgF w _
 have hG:w.grownBy w1 none:=by rw[a6];exact qgw _ _ none
 have ⟨HA,HW1,HR,HG⟩:=zY hA a6 hR hG;clear hA a6 hR hG;go_enter Tp.x80,Tryz.ntmps80;go_upto_region 1 with(fail);rw[<- HA.out,<- HW1.out];have HT:=qgv (qh1 w1 none);have s0:=q8 (o:=0) HR.out rfl;have s1:=q8 (o:=1) HR.out rfl;have f0:=qm (o:=0) HR.out;have f1:=qm (o:=1) HR.out;have b7:=(qgy.1 HR.out).1;go_wp2_with (go_at_call 39;refine(q5A _ _ _ _ _).mono ?_;rintro e w2 ⟨rfl,hg⟩;replace HT:=qgv (HT.out.trans hg);replace s0:=q8 (o:=0) (bk HT.out HR.out) rfl;replace s1:=q8 (o:=1) (bk HT.out HR.out) rfl;replace f0:=qm (o:=0) (bk HT.out HR.out);replace f1:=qm (o:=1) (bk HT.out HR.out);replace b7:=(qgy.1 (bk HT.out HR.out)).1;clear hg);obtain⟨cs,hcs⟩:∃cs:Array qgB,cs=#[.int .i64 8,.int .i64 10,.int .i64 n,.int .i64 2,.int .i64 4,.int .i64 6,.int .i64 6,.int .i64 2,.int .i64 2,.int .i64 3,.int .i64 3,.int .i64 1,.int .i64 5,.int .i64 5,.int .i64 0,.int .i64 1]:=⟨_,rfl⟩;obtain⟨W,a7⟩:∃W,W=((w2.setCell ⟨A,0,none⟩ (.slice (some ⟨w2.heap.size,0,none⟩) 4 4)).setCell ⟨A,1,none⟩ (.int .i64 6)).alloc (.cells cs 28):=⟨_,rfl⟩;have hz:((w2.setCell ⟨A,0,none⟩ (.slice (some ⟨w2.heap.size,0,none⟩) 4 4)).setCell ⟨A,1,none⟩ (.int .i64 6)).heap.size=w2.heap.size:=by simp[qjc]
 have b0:W.heap[A]?=some (.cells #[.slice (some ⟨w2.heap.size,0,none⟩) 4 4,.int .i64 6] 24 (0,0)):=by rw[a7];exact qp (by rw[qg (qg (bk HT.out HR.out))];rfl)
 have a8:W.heap[w2.heap.size]?=some (.cells cs 28 (0,0)):=by
  have:=qgF ((w2.setCell ⟨A,0,none⟩ (.slice (some ⟨w2.heap.size,0,none⟩) 4 4)).setCell ⟨A,1,none⟩ (.int .i64 6)) (.cells cs 28);rw[hz,<- a7] at this;exact this
 have hA:=HA.out;have b6:w.grownBy W none:=((HG.out.trans HT.out).andThen (row':=some A) ((qe _ _ _ _).trans (qe _ _ _ _)) (by rintro j e;cases e;exact .inl (by omega))).trans (by rw[a7];exact qgw _ _ _);have hsz:=(HG.out.trans HT.out).size;have a9:w2.heap.size<W.heap.size:=(qgy.1 a8).1;rw[<- hcs,<- a7];refine qj8 (v:=.agg #[.slice (some ⟨w2.heap.size,0,none⟩) 4 4,.int .i64 6]) (by simp[qjb,Tryz.results80,go_sem,qhs,b0]) rfl ⟨_,rfl,b6,⟨some ⟨w2.heap.size,0,none⟩,4,rfl,by simp[z9],λ_=>⟨w2.heap.size,0,cs,_,rfl,hsz,a9,a8,λi hi=>?_⟩⟩,λad m c e=>?_⟩;rotate_left
 ·cases e;refine⟨cs,_,_,a8,λi u hu=>?_⟩;rw[hcs] at hu;have hm:=qiE hu;simp only[qkd,qix,qiF,or_false] at hm;rcases hm with h | h | h | h | h | h | h | h | h | h | h | h | h | h | h | h<;>exact⟨_,_,h⟩
 obtain rfl | rfl | rfl | rfl:i=0\/i=1\/i=2\/i=3:=by simp[z9] at hi;omega
 all_goals
  rw[hcs];exact⟨_,rfl,rfl,rfl,rfl,rfl⟩
end
section
open Go Go.RowKit Go.Co Go.Sim Go.Conc Go.ConcN
theorem ZN{w:qgx}{B:Nat}{cs:Array qgB}{fr:Nat × Nat}(l:List Int)(h:w.heap[B]?=some (.cells cs 3 fr))(hc:cs=(l.map (qhj .i64)).toArray)(hl:(l.length:Int)<=1000000):qf 0 w.heap.size w (.slice (some B) l.length l.length) l :=
 ⟨_,_,rfl,hl,λ_=>⟨B,0,cs,fr,rfl,qhx _,qx h,h,λi hi=>by rw[hc];simp[hi]⟩⟩
theorem jF(w:qgx){cs:Array qgB}(l:List Int)(hc:cs=(l.map (qhj .i64)).toArray)(hl:(l.length:Int)<=1000000):qf 0 (w.alloc (.cells cs 3)).heap.size (w.alloc (.cells cs 3)) (.slice (some w.heap.size) l.length l.length) l:=ZN l (qgF w _) hc hl
theorem qf.kn{w u:qgx}{T:Nat->qj1->Nat}{v:qgB}{l:List Int}(h:qf 0 w.heap.size w v l)(hg:(w.tp T).grownBy u none):qf 0 u.heap.size u v l:=(qf.kept (w:=w.tp T) h hg (by simp)).mono (qgA _) hg.size
theorem qE.kn{w u:qgx}{T:Nat->qj1->Nat}{v:qgB}{l:List (Int × Int)}(h:qE 0 w.heap.size w v l)(hg:(w.tp T).grownBy u none):qE 0 u.heap.size u v l:=(qE.kept (w:=w.tp T) h hg (by simp)).mono (qgA _) hg.size
theorem RowsIn.kn{w u:qgx}{T:Nat->qj1->Nat}{v:qgB}{l:List (List Int)}(h:RowsIn 0 w.heap.size w v l)(hg:(w.tp T).grownBy u none):RowsIn 0 u.heap.size u v l:=(RowsIn.kept (w:=w.tp T) h hg (by simp)).mono (qgA _) hg.size
theorem q7i{ps:List Par}{m:Nat}(hm:1<=m)(hk:∀p∈ps,kOf p<=m):∀(wl:List Int) (L:List (Nat->Int)),(wl.foldl (kZ ps) L).length<=L.length*m ^ wl.length
 | [],L=>by simp
 | x::wl,L=>by
  have ih:=q7i hm hk wl (kZ ps L x);have h1:(kZ ps L x).length<=L.length*m:=by
   unfold kZ;split
   ·rename_i p hp
    rw[vD];exact Nat.mul_le_mul_left _ (hk p (qhg hp))
   ·exact Nat.le_mul_of_pos_right _ hm
  rw[List.foldl_cons,qh3,Nat.pow_succ];refine qh0 ih (qh0 (Nat.mul_le_mul_right _ h1) ?_);rw[Nat.mul_assoc,Nat.mul_comm m];exact qgA _
theorem qdq{ps:List Par}{lim:Int}(h:YOk ps lim){l wl:List Int}(hl:∀y∈l,0<=y/\y<ps.length)(ll:l.length<=1000)(hwl:∀y∈wl,0<=y/\y<ps.length)(w5:wl.length<=5):qcg ps l wl:=by
 refine⟨h.len,λp hp=>?_,hl,ll,hwl,by omega,λj hj=>?_⟩
 ·have:=h.each p hp;omega
 ·have h1:=q7i (ps:=ps) (m:=12) (by omega) (λp hp=>by have:=h.each p hp;unfold kOf;omega) (wl.take j) [λ_=>0];have h2:12 ^ (wl.take j).length<=12 ^ 5:=Nat.pow_le_pow_right (by omega) (by rw[qjz];omega);unfold yS;simp only[qh3,qhc,qhf,Nat.one_mul] at h1;omega
theorem q8m{w:qgx}{B:Nat}{cs:Array qgB}{fr:Nat × Nat}(h:w.heap[B]?=some (.cells cs 26 fr))(hc:cs=#[.int .i64 6,.int .i64 9,.int .i64 2,.int .i64 3,.int .i64 0,.int .i64 0]):qE 0 w.heap.size w (.slice (some B) 3 3) [(6,9),(2,3),(0,0)]:=by
 refine⟨_,_,rfl,by decide,λ_=>⟨B,0,cs,fr,rfl,qhx _,qx h,h,λi hi=>?_⟩⟩;subst hc;have hi:i<3:=hi;obtain rfl | rfl | rfl:i=0\/i=1\/i=2:=by omega
 all_goals exact⟨_,rfl,rfl,rfl⟩
theorem qb4{w:qgx}{B A1 A2:Nat}{fr:Nat × Nat}(h:w.heap[B]?=some (.cells #[.slice (some A1) 2 2,.slice (some A2) 2 2] 29 fr))(h1:qf 0 w.heap.size w (.slice (some A1) 2 2) [0,2])(h2:qf 0 w.heap.size w (.slice (some A2) 2 2) [1,3]):RowsIn 0 w.heap.size w (.slice (some B) 2 2) [[0,2],[1,3]]:=by
 refine⟨_,_,rfl,by decide,λ_=>⟨B,0,_,fr,rfl,qhx _,qx h,h,λi hi=>?_⟩⟩;have hi:i<2:=hi;obtain rfl | rfl:i=0\/i=1:=by omega
 ·exact⟨_,_,rfl,rfl,h1⟩
 ·exact⟨_,_,rfl,rfl,h2⟩
theorem q6p(w:qgx):RowsIn 0 (((w.alloc (.cells #[.int .i64 0,.int .i64 2] 3)).alloc (.cells #[.int .i64 1,.int .i64 3] 3)).alloc (.cells #[.slice (some w.heap.size) 2 2,.slice (some (w.heap.size+1:Nat)) 2 2] 29)).heap.size (((w.alloc (.cells #[.int .i64 0,.int .i64 2] 3)).alloc (.cells #[.int .i64 1,.int .i64 3] 3)).alloc (.cells #[.slice (some w.heap.size) 2 2,.slice (some (w.heap.size+1:Nat)) 2 2] 29)) (.slice (some (w.heap.size+2:Nat)) 2 2) [[0,2],[1,3]]:=by
 refine qb4 (A1:=w.heap.size) (A2:=w.heap.size+1) (fr:=(0,0)) ?_ ?_ ?_
 ·have h:=qgF ((w.alloc (.cells #[.int .i64 0,.int .i64 2] 3)).alloc (.cells #[.int .i64 1,.int .i64 3] 3)) (.cells #[.slice (some w.heap.size) 2 2,.slice (some (w.heap.size+1:Nat)) 2 2] 29);rw[qh6,qh6] at h;exact h
 ·exact ZN [0,2] (qp (qp (qgF w _))) rfl (by decide)
 ·have h:=qgF (w.alloc (.cells #[.int .i64 0,.int .i64 2] 3)) (.cells #[.int .i64 1,.int .i64 3] 3);rw[qh6] at h;exact ZN [1,3] (qp h) rfl (by decide)
theorem yD[JunkSet]{f:qib}{Post:qgB->qgx->Prop}{W:qgx}{g:qgC}{w:qgx}(F:qgx->Prop)(hF:F w)(h:∀u,F u->EL Ya qh5 f Post W g u):EL Ya qh5 f Post W g w:=h w hF
section
variable[J:JunkSet]{f:qib}{Post:qgB->qgx->Prop}{W:qgx}
theorem qg9(D:Two Ya qh5)(hok:JunkSet.okf 137)(k6:∀i,¬ JunkSet.jk i)(hin:Ya.inits.idxOf? f=none)(hfs:∃g,Ya.funcs[f]?=some g/\Tryz.prog.funcs[f]?=some g){wq:qgx}(h0:qT wq 0) :EC Ya qh5 f Post W 23 #[] wq λv u=>v=.bool true/\(wq.tp u.tape).grownBy u none:=by
 have hs:Ya.funcs[(qhl 23).fn]?=Tryz.prog.funcs[(qhl 23).fn]?:=z6 23 (by decide);refine EC.of_body1 D (fn:=Tryz.f23) (c0:=Tryz.f23.body.getD .skip) (t:=0) Tp.x23 Tryz.func23 (by kernel_rfl) rfl λcs hb b7=>?_;have HR:=qgv b7;clear b7;simp only[Tryz.f23,qgH];walk_nrm;refine EL.sp D hb hs λT=>?_;go_wp2;refine EL.tape (wq:=wq) ?_ T;refine EL.sp D hb hs λT=>?_;go_wp2_with (first
  | (go_at_call 80;refine(yr 12 _).mono ?_;rintro e w2 ⟨v2,rfl,a8,a6,a7⟩;have G2:=qgv a8;have P2:=qgv a6;have I2:=qgv a7;obtain⟨yb,yc,rfl,-,-⟩:=a6.cell;clear a8 a6 a7)
  | (go_at_call 35;refine(q1e 0 _ _ _ (z9 12) 6 [0,1,2] _ ((P2.out.kept (qgw _ _ none)).mono (qhx _) (by rw[qh6];omega)) (jF _ [0,1,2] rfl (by decide)) (qgA _) (yJ (by omega)) (Yh 12)).mono ?_;rintro e w3 ⟨v3,rfl,a9,c3⟩;rw[qbt] at c3;have G3:=qgv a9;have B3:=qgv c3;clear a9 c3))
 have ga:=G2.out.trans ((qgw _ _ none).trans G3.out);refine yD (λu=>(wq.tp u.tape).grownBy u none/\qE 0 u.heap.size u v3 [(6,9),(2,3),(0,0)]) ⟨tpg ga,B3.out.mono (qhx _) (qgA _)⟩ λu1 hF=>?_;obtain⟨g1,bA⟩:=hF;clear ga B3 G3 G2 P2 I2;refine EL.sp D hb hs λT=>?_;go_wp2_with (first
  | (go_at_call 80;refine(yr 8 _).mono ?_;rintro e w2 ⟨v2,rfl,a8,a6,a7⟩;have G2:=qgv a8;have P2:=qgv a6;have I2:=qgv a7;obtain⟨yb,yc,rfl,-,-⟩:=a6.cell;clear a8 a6 a7)
  | (go_at_call 37;refine(q7B 0 _ _ _ (z9 8) 6 [0,1,2] _ ((P2.out.kept (qgw _ _ none)).mono (qhx _) (by rw[qh6];omega)) (jF _ [0,1,2] rfl (by decide)) (qgA _) (yJ (by omega)) (Yh 8)).mono ?_;rintro e w3 ⟨rfl,a9⟩;rw[q8H];have G3:=qgv a9;clear a9))
 have ga:=G2.out.trans ((qgw _ _ none).trans G3.out);refine yD (λu=>(wq.tp u.tape).grownBy u none/\qE 0 u.heap.size u v3 [(6,9),(2,3),(0,0)]) ⟨gb g1 (tpg ga),bA.kn ga⟩ λu2 hF=>?_;obtain⟨g2,k0⟩:=hF;clear ga G3 G2 P2 I2 g1 bA;refine EL.sp D hb hs λT=>?_;go_wp2_with (first
  | (go_at_call 80;refine(yr 8 _).mono ?_;rintro e w2 ⟨v2,rfl,a8,a6,a7⟩;have G2:=qgv a8;have P2:=qgv a6;have I2:=qgv a7;obtain⟨yb,yc,rfl,-,-⟩:=a6.cell;clear a8 a6 a7)
  | (go_at_call 36;refine(q7H 0 _ _ _ (z9 8) 6 [0,1,2] _ ((P2.out.kept (qgw _ _ none)).mono (qhx _) (by rw[qh6];omega)) (jF _ [0,1,2] rfl (by decide)) (qgA _) (yJ (by omega)) (Yh 8)).mono ?_;rintro e w3 ⟨rfl,a9⟩;rw[qbs];have G3:=qgv a9;clear a9))
 obtain⟨X,hX⟩:∃X,X=w3.heap.size:=⟨_,rfl⟩;rw[<- hX];have ga:=(G2.out.trans ((qgw _ _ none).trans G3.out)).trans (qgw w3 (.cells #[.int .i64 (-1),.int .i64 2] 26) none);refine yD (λu=>(wq.tp u.tape).grownBy u none/\qE 0 u.heap.size u v3 [(6,9),(2,3),(0,0)]/\u.heap[X]?=some (.cells #[.int .i64 (-1),.int .i64 2] 26 (0,0))) ⟨gb g2 (tpg ga),k0.kn ga,by rw[hX];exact qgF _ _⟩ λu3 hF=>?_;obtain⟨g3,h9,x3⟩:=hF;clear ga G3 G2 P2 I2 g2 k0 hX;refine EL.seq D hb hs ?_;refine EL.region D hb hs ?_;simp only[qhn,qh3,qhc,qhk,qhf,qht,qi4];refine EL.list D hb hs [0,1] [_,_] (rest:=[2,3,4,5,6,7]) rfl λT=>?_;go_wp2_with (go_at_call 80;refine(yr 8 _).mono ?_;rintro e w2 ⟨v2,rfl,a8,a6,a7⟩;have G2:=qgv a8;have P2:=qgv a6;have I2:=qgv a7;obtain⟨yb,yc,rfl,-,-⟩:=a6.cell;clear a8 a6 a7);obtain⟨B,hB⟩:∃B,B=w2.heap.size:=⟨_,rfl⟩;rw[<- hB];have ga:=G2.out.trans (qgw w2 (.cells #[.int .i64 0,.int .i64 1,.int .i64 2] 3) none);have b9:(w2.alloc (.cells #[.int .i64 0,.int .i64 1,.int .i64 2] 3)).heap[B]?=some (.cells #[.int .i64 0,.int .i64 1,.int .i64 2] 3 (0,0)):=by rw[hB];exact qgF _ _
 refine yD (λu=>((wq.tp u.tape).grownBy u none/\qE 0 u.heap.size u v3 [(6,9),(2,3),(0,0)]/\u.heap[X]?=some (.cells #[.int .i64 (-1),.int .i64 2] 26 (0,0)))/\qn 0 u.heap.size u (.slice yb (z9 8).length yc) (z9 8)/\qQ u (.slice yb (z9 8).length yc)/\qf 0 u.heap.size u (.slice (some B) ([0,1,2]:List Int).length 3) [0,1,2]/\qQ u (.slice (some B) ([0,1,2]:List Int).length 3))
  ⟨⟨gb g3 (tpg ga),h9.kn ga,bk ga x3⟩,(P2.out.kept (qgw _ _ none)).mono (qhx _) (by rw[qh6];omega),λad n c e=>by
   obtain⟨cs,e1,f1,h1,h2⟩:=I2.out ad n c e;exact⟨cs,e1,f1,qp h1,h2⟩,ZN [0,1,2] b9 rfl (by decide),λad n c e=>by
   cases e;refine⟨_,_,_,b9,λi u hu=>?_⟩;have hm:=qiE hu;simp only[qkd,qix,qiF,or_false] at hm;rcases hm with h | h | h<;>exact⟨_,_,h⟩⟩ λu4 hF=>?_
 obtain⟨⟨g4,h8,x4⟩,p4,c8,i4,c9⟩:=hF;clear ga b9 hB G2 P2 I2 g3 h9 x3;refine EL.enter D hb hs (fk:=29) (args:=#[.agg #[.slice yb (z9 8).length yc,.int .i64 6],.slice (some B) 3 3]) rfl rfl (λT=>by rw[qm9 (f:=29) rfl Tp.x29 (by kernel_rfl) rfl];walk_nrm) (z6 29 (by decide)) ?_;refine el29 D hok k6 hin hfs (ws:=[0,1,2]) (l:=[0,1,2]) (by decide) (λc hc hl=>qdq (yJ (by omega)) (by simp[vu]) (by decide) (λy hy=>by have:=hc y hy;simp at this;rw[vu];omega) (by simp at hl;omega)) (xX (by decide) (by decide)) (yJ (by omega)) (Yh 8) p4 c8 i4 c9 ?_ _ cs hb hs λv u hR=>?_
 ·obtain⟨cs,e,g,h0,k7⟩:=h0;exact⟨cs,e,g,blk (w:=wq.tp u4.tape) g4 (by simp) h0,k7⟩
 obtain⟨o,s,rfl,⟨bo,b8⟩,b6,d6⟩:=hR;rw[qbr] at b8;obtain⟨rfl,rfl⟩:=Prod.mk.inj b8;have g5:=gb g4 b6;have e9:=h8.kn b6;have x5:=blk (w:=u4.tp u.tape) b6 (by simp) x4;clear g4 h8 x4 p4 c8 i4 c9 b8 b6;rw[qjg];walk_nrm;refine EL.list D hb hs [3,4,5,6,7] [_,_,_,_,_] (rest:=[]) rfl λT=>?_;go_wp2;refine EL.tape (wq:=u) ?_ T;refine EL.region_end D hb hs ?_;refine EL.sp D hb hs λT=>?_;go_wp2_with (first
  | (go_at_call 80;refine(yr 12 _).mono ?_;rintro e w2 ⟨v2,rfl,a8,a6,a7⟩;have G2:=qgv a8;have P2:=qgv a6;have I2:=qgv a7;obtain⟨yb,yc,rfl,-,-⟩:=a6.cell;clear a8 a6 a7)
  | (go_at_call 54;refine(qd6 _ _ (z9 12) 6 [2,1,0] _ ((P2.out.kept (qgw _ _ none)).mono (qhx _) (by rw[qh6];omega)) (jF _ [2,1,0] rfl (by decide)) (yJ (by omega)) (qd1 12) 10 (by decide) (some (3,[0,1,2])) qdm).mono ?_;rintro e w3 ⟨a9,v7,rfl,d5⟩;have G3:=qgv a9;have I7:=qgv d5;clear a9 d5))
 have ga:=G2.out.trans ((qgw _ _ none).trans G3.out);refine yD (λq=>(wq.tp q.tape).grownBy q none/\qE 0 q.heap.size q v3 [(6,9),(2,3),(0,0)]/\q.heap[X]?=some (.cells #[.int .i64 (-1),.int .i64 2] 26 (0,0))/\qf 0 q.heap.size q s [1,2]/\qf 0 q.heap.size q v7 [0,1,2]) ⟨gb g5 (tpg ga),e9.kn ga,bk ga x5,d6.kn ga,I7.out⟩ λu6 hF=>?_;obtain⟨g6,e8,x6,s6,m6⟩:=hF;clear ga G3 G2 P2 I2 I7 g5 e9 x5 d6;refine EL.sp D hb hs λT=>?_;go_wp2_with (first
  | (go_at_call 80;refine(yr 8 _).mono ?_;rintro e w2 ⟨v2,rfl,a8,a6,a7⟩;have G2:=qgv a8;have P2:=qgv a6;have I2:=qgv a7;obtain⟨yb,yc,rfl,-,-⟩:=a6.cell;clear a8 a6 a7)
  | (go_at_call 63;refine(q8D _ (z9 8) 6 _ (P2.out.mono (qhx _) (qgA _)) (yJ (by omega)) Yo (by decide) (by decide) exS q91.symm (by decide) (by decide) q90 10 (by decide) [[0,2],[1,3]] qf7).mono ?_;rintro e w3 ⟨v9,rfl,a9,b0⟩;have G3:=qgv a9;have R9:=qgv b0;clear a9 b0))
 have ga:=G2.out.trans G3.out;refine yD (λq=>(wq.tp q.tape).grownBy q none/\qE 0 q.heap.size q v3 [(6,9),(2,3),(0,0)]/\q.heap[X]?=some (.cells #[.int .i64 (-1),.int .i64 2] 26 (0,0))/\qf 0 q.heap.size q s [1,2]/\qf 0 q.heap.size q v7 [0,1,2]/\RowsIn 0 q.heap.size q v9 [[0,2],[1,3]]) ⟨gb g6 (tpg ga),e8.kn ga,bk ga x6,s6.kn ga,m6.kn ga,R9.out⟩ λu7 hF=>?_;obtain⟨g7,e7,x7,s7,m7,r7⟩:=hF;clear ga G3 G2 P2 I2 R9 g6 e8 x6 s6 m6;refine EL.sp D hb hs λT=>?_;go_wp2_with (first
  | (go_at_call 80;refine(yr 12 _).mono ?_;rintro e w2 ⟨v2,rfl,a8,a6,a7⟩;have G2:=qgv a8;have P2:=qgv a6;have I2:=qgv a7;obtain⟨yb,yc,rfl,-,-⟩:=a6.cell;clear a8 a6 a7)
  | (go_at_call 44;refine(qb0 _ (z9 12) 6 _ (P2.out.mono (qhx _) (qgA _)) (yJ (by omega))).mono ?_;rintro e w3 ⟨k5,rfl,a9,b0⟩;rw[qdl] at b0;have G3:=qgv a9;have R9:=qgv b0;clear a9 b0))
 have ga:=G2.out.trans G3.out;refine yD (λq=>(wq.tp q.tape).grownBy q none/\qE 0 q.heap.size q v3 [(6,9),(2,3),(0,0)]/\q.heap[X]?=some (.cells #[.int .i64 (-1),.int .i64 2] 26 (0,0))/\qf 0 q.heap.size q s [1,2]/\qf 0 q.heap.size q v7 [0,1,2]/\RowsIn 0 q.heap.size q v9 [[0,2],[1,3]]/\qf 0 q.heap.size q k5 [0,1,2]) ⟨gb g7 (tpg ga),e7.kn ga,bk ga x7,s7.kn ga,m7.kn ga,r7.kn ga,R9.out⟩ λu8 hF=>?_;obtain⟨g8,e6,x8,s8,m8,r8,o8⟩:=hF;clear ga G3 G2 P2 I2 R9 g7 e7 x7 s7 m7 r7;refine EL.sp D hb hs λT=>?_;have GA:=qgv (qh1 (u8.tp T) none);have c0:=q8 (w:=u8.tp T) x8 (o:=0) rfl;have c1:=q8 (w:=u8.tp T) x8 (o:=1) rfl;have k9:=λ(w:qgx)=>qc5 (-1) 2 (-1) 2 w;have k8:=KB;go_wp2_with (fail);refine(QR 0 _ 0 _ _ _ [(6,9),(2,3),(0,0)] [(6,9),(2,3),(0,0)] _ (qE.kept (w:=u8.tp T) e6 (qgw (u8.tp T) _ none) (by simp)) (q8m (qgF _ _) rfl)).mono ?_;rintro e wA ⟨rfl,e5⟩;have gA:=(qgw (u8.tp T) _ none).trans e5;have GA:=qgv gA;have S8:=qgv (s8.kn gA);have M8:=qgv (m8.kn gA);have R8:=qgv (r8.kn gA);have O8:=qgv (o8.kn gA);clear gA e5 c0 c1 s8 m8 r8 o8 e6;rw[decide_eq_true (show([(6,9),(2,3),(0,0)]:List (Int × Int))=[(6,9),(2,3),(0,0)] from rfl)];go_wp2_with (fail);refine(km 0 _ 0 _ _ _ [1,2] [1,2] _ (S8.out.alloc _) (jF _ [1,2] rfl (by decide))).mono ?_;rintro e wB ⟨rfl,e4⟩;have gB:=(qgw wA _ none).trans e4;have GB:=qgv (GA.out.trans gB);have M9:=qgv (M8.out.kn (T:=wA.tape) gB);have R9:=qgv (R8.out.kn (T:=wA.tape) gB);have O9:=qgv (O8.out.kn (T:=wA.tape) gB);clear gB e4 GA S8 M8 R8 O8;rw[decide_eq_true (show([1,2]:List Int)=[1,2] from rfl)];go_wp2_with (fail);refine(km 0 _ 0 _ _ _ [0,1,2] [0,1,2] _ (M9.out.alloc _) (jF _ [0,1,2] rfl (by decide))).mono ?_;rintro e wC ⟨rfl,d9⟩;have gC:=(qgw wB _ none).trans d9;have GC:=qgv (GB.out.trans gC);have RC:=qgv (R9.out.kn (T:=wB.tape) gC);have OC:=qgv (O9.out.kn (T:=wB.tape) gC);clear gC d9 GB M9 R9 O9;rw[decide_eq_true (show([0,1,2]:List Int)=[0,1,2] from rfl)];go_wp2_with (fail);refine(q2g 0 _ 0 _ _ _ [[0,2],[1,3]] [[0,2],[1,3]] _ (RC.out.kept ((qgw _ _ none).trans ((qgw _ _ none).trans (qgw _ _ none)))) (q6p wC)).mono ?_;rintro e wD ⟨rfl,d8⟩;have gD:=((qgw wC _ none).trans ((qgw _ _ none).trans (qgw _ _ none))).trans d8;have GD:=qgv (GC.out.trans gD);have OD:=qgv (OC.out.kn (T:=wC.tape) gD);clear gD d8 GC RC OC;rw[decide_eq_true (show([[0,2],[1,3]]:List (List Int))=[[0,2],[1,3]] from rfl)];go_wp2_with (fail);refine(km 0 _ 0 _ _ _ [0,1,2] [0,1,2] _ (OD.out.alloc _) (jF _ [0,1,2] rfl (by decide))).mono ?_;rintro e wE ⟨rfl,d7⟩;have gE:=GD.out.trans ((qgw wD _ none).trans d7);have GE:=qgv gE;clear gE d7 GD OD;rw[decide_eq_true (show([0,1,2]:List Int)=[0,1,2] from rfl)];go_wp2;refine yD (λq=>(wq.tp q.tape).grownBy q none) (gb g8 (tpg GE.out)) λu9 g9=>?_;refine EL.retS D hb hs ?_;exact HR.out _ _ u9 ⟨rfl,g9⟩
end
end
section
open Go Go.RowKit Go.Co Go.Sim Go.Conc Go.ConcN
theorem qcc.yok{n:Nat}{ps:List Par}{lim:Int}(h:qcc n ps lim)(hn:n<=5):YOk ps lim:=⟨by have:=h.len;omega,λp hp=>by
 have:=h.each p hp;have h1:=this.a;have h2:=this.b;have h3:=this.c;have h4:=this.d;have h5:=this.e;have h6:=this.f;have h7:=this.g;have h8:=this.h;omega,by have:=h.l1;omega,by have:=h.l2;omega⟩
theorem q8r{f:qib}{fn:Func}{c0:qje}{args:Array qgB}(hf:Ya.funcs[f]?=some fn)(a6:fn.body=some c0) :qhD Ya f args .normal=(qhl f).at ⟨args++qi0 (fn.ntmps - args.size) qgD,[]⟩ [.code c0]:=by
 simp[qhD,hf,a6,Frame.at,qhl]
section
variable[J:JunkSet]{Post:qgB->qgx->Prop}{W:qgx}
end
end
section
open Go Go.RowKit
theorem qb9(lo hi:Nat)(v:qgB)(l:List Int)(w:qgx)(hI:qf lo hi w v l)(hhi:hi<=w.heap.size)(hl:l.length<=1000) :qhw Ya 28 #[v] w λe w'=>∃v',e=.returned v'/\w.grownBy w' none/\w'.ownsRow w.heap.size 3 1 v' l.length (l.map (qhj .i64)):=by
 obtain⟨i0,b7,b6,b0,a9⟩:=qjj Tp.info3p;obtain⟨base,cap,rfl,b8,hc⟩:=hI;rcases base with _ | ad
 ·obtain rfl:l=[]:=qhF λh=>by obtain⟨_,_,_,_,e,_⟩:=hc h;cases e
  clear hc;go_enter Tp.x28,qp6;go_wp2;go_ret;exact⟨_,rfl,qgw _ _ none,rfl,.inr ⟨_,0,#[],rfl,qgA _,qgF _ _,qgA _,by decide,rfl,rfl⟩⟩
 ·have hn:∀j u,(l.map (qhj .i64))[j]?=some u->(w.alloc (.cells #[] 3)).cell? (ad.add j)=some u:=λj u hu=>by
   rw[qj7] at hu;cases hj:l[j]? with
   | none=>rw[hj] at hu;cases hu
   | some x=>
    rw[hj] at hu;cases hu;have a8:=(qh9.1 hj).1;obtain⟨B,o,cs,fr,e,h1,h2,h3,h4⟩:=hc (by rintro rfl;simp at a8);cases e;have:=h4 j a8;rw[hj] at this;exact yg (q8 (qp h3) this)
  have HN:=qgv hn;clear hc hn;go_enter Tp.x28,qp6;go_wp2_with (at_builtin;(refine qks _ rfl _ _ 29 rfl w.heap.size 3 i0 _ 1 8 Tp.und29' b7 b6 b0 a9 rfl (by decide) (.slice (some w.heap.size) 0 0) 0 [] rfl ⟨rfl,.inr ⟨_,0,#[],rfl,qgA _,qgF _ _,qgA _,by decide,rfl,rfl⟩⟩ ad l.length cap (l.map (qhj .i64)) rfl (by simp) HN.out (by intro u hu;simp at hu;obtain⟨x,_,rfl⟩:=hu;rfl) (by unfold qkq;omega) (by omega) (by simp) ?_);intro v' w7 a6 a7 _;have HO:=qgv a6;have HG:=qgv a7;clear a6 a7);go_ret;refine⟨_,rfl,(qgw _ _ none).andThen HG.out (λj e=>.inl ?_),by simpa using HO.out⟩;simp[qhB] at e;omega
end
section
open Go.RowKit
def zw(lo hi:Nat)(w:qgx)(v:qgB)(l:List Int):Prop :=
 ∃base cap,v=.slice base l.length cap/\(l.length:Int)<=1000000 /\
  (l≠[]->∃B o,base=some ⟨B,o,none⟩/\lo<=B/\B<hi/\B<w.heap.size/\∀i,i<l.length->w.cell? ⟨B,o+i,none⟩=some (.int .i64 (l[i]?.getD 0)))
theorem qf.g{lo hi:Nat}{w:qgx}{v:qgB}{l:List Int}(h:qf lo hi w v l):zw lo hi w v l:=h.cell
theorem zw.cell{lo hi:Nat}{w:qgx}{v:qgB}{l:List Int}(h:zw lo hi w v l):∃base cap,v=.slice base l.length cap/\(l.length:Int)<=1000000 /\(l≠[]->∃B o,base=some ⟨B,o,none⟩/\lo<=B/\B<hi/\B<w.heap.size/\∀i,i<l.length->w.cell? ⟨B,o+i,none⟩=some (.int .i64 (l[i]?.getD 0))):=h
theorem zw.kept{lo hi:Nat}{w w':qgx}{v:qgB}{l:List Int}{row:Option Nat}(h:zw lo hi w v l)(hg:w.grownBy w' row)(hr:∀R,row=some R->R<lo\/hi<=R:=by simp):zw lo hi w' v l:=by
 obtain⟨b,c,rfl,hl,h1⟩:=h;refine⟨b,c,rfl,hl,λhne=>?_⟩;obtain⟨B,o,rfl,h2,h3,h4,h5⟩:=h1 hne;refine⟨B,o,rfl,h2,h3,qh7 h4 hg.size,λi hi=>hg.cell (h5 i hi) (λe=>?_)⟩;have:=hr B e.symm;omega
theorem zw.mono{lo hi lo' a6:Nat}{w:qgx}{v:qgB}{l:List Int}(h:zw lo hi w v l)(h1:lo'<=lo)(h2:hi<=a6):zw lo' a6 w v l:=by
 obtain⟨b,c,rfl,hl,h3⟩:=h;refine⟨b,c,rfl,hl,λhne=>?_⟩;obtain⟨B,o,e,h4,h5,h6,h7⟩:=h3 hne;exact⟨B,o,e,by omega,by omega,h6,h7⟩
theorem zw.take{lo hi:Nat}{w:qgx}{b:Option qi5}{c:Nat}{l:List Int}(h:zw lo hi w (.slice b l.length c) l)(k:Nat)(hk:k<=l.length)(c':Nat):zw lo hi w (.slice b k c') (l.take k):=by
 obtain⟨base,cap,e,hl,hr⟩:=h;injection e with e1 _ _;subst e1;have hlen:(l.take k).length=k:=by simp;omega
 refine⟨b,c',by rw[hlen],by rw[hlen];omega,λhne=>?_⟩;have a6:0<k:=Nat.pos_of_ne_zero λe=>hne (by rw[e];rfl);obtain⟨B,o,e1,e2,e3,e4,e5⟩:=hr (by intro e;rw[e] at hk;simp at hk;omega);refine⟨B,o,e1,e2,e3,e4,λi hi=>?_⟩;rw[hlen] at hi;rw[e5 i (by omega),qiz hi]
def zA(lo hi:Nat)(w:qgx)(v:qgB)(ps:List Par):Prop :=
 ∃base cap,v=.slice base ps.length cap/\(ps.length:Int)<=1000000 /\
  (ps≠[]->∃B o,base=some ⟨B,o,none⟩/\lo<=B/\B<hi/\B<w.heap.size/\∀i,i<ps.length->∃p,ps[i]?=some p/\w.cell? ⟨B,o+i*4,none⟩=some (.int .i64 p.mn)/\w.cell? ⟨B,o+i*4+1,none⟩=some (.int .i64 p.mx)/\w.cell? ⟨B,o+i*4+2,none⟩=some (.int .i64 p.bears)/\w.cell? ⟨B,o+i*4+3,none⟩=some (.int .i64 p.tall))
theorem qn.g{lo hi:Nat}{w:qgx}{v:qgB}{ps:List Par}(h:qn lo hi w v ps):zA lo hi w v ps:=h.cell
theorem zA.cell{lo hi:Nat}{w:qgx}{v:qgB}{ps:List Par}(h:zA lo hi w v ps):∃base cap,v=.slice base ps.length cap/\(ps.length:Int)<=1000000 /\(ps≠[]->∃B o,base=some ⟨B,o,none⟩/\lo<=B/\B<hi/\B<w.heap.size/\∀i,i<ps.length->∃p,ps[i]?=some p/\w.cell? ⟨B,o+i*4,none⟩=some (.int .i64 p.mn)/\w.cell? ⟨B,o+i*4+1,none⟩=some (.int .i64 p.mx)/\w.cell? ⟨B,o+i*4+2,none⟩=some (.int .i64 p.bears)/\w.cell? ⟨B,o+i*4+3,none⟩=some (.int .i64 p.tall)):=h
theorem zA.kept{lo hi:Nat}{w w':qgx}{v:qgB}{ps:List Par}{row:Option Nat}(h:zA lo hi w v ps)(hg:w.grownBy w' row)(hr:∀R,row=some R->R<lo\/hi<=R:=by simp):zA lo hi w' v ps:=by
 obtain⟨b,c,rfl,hl,h1⟩:=h;refine⟨b,c,rfl,hl,λhne=>?_⟩;obtain⟨B,o,rfl,h2,h3,h4,h5⟩:=h1 hne;have hB:some B≠row:=λe=>by have:=hr B e.symm;omega
 refine⟨B,o,rfl,h2,h3,qh7 h4 hg.size,λi hi=>?_⟩;obtain⟨p,e0,e1,e2,e3,e4⟩:=h5 i hi;exact⟨p,e0,hg.cell e1 hB,hg.cell e2 hB,hg.cell e3 hB,hg.cell e4 hB⟩
theorem zA.mono{lo hi lo' a6:Nat}{w:qgx}{v:qgB}{ps:List Par}(h:zA lo hi w v ps)(h1:lo'<=lo)(h2:hi<=a6):zA lo' a6 w v ps:=by
 obtain⟨b,c,rfl,hl,h3⟩:=h;refine⟨b,c,rfl,hl,λhne=>?_⟩;obtain⟨B,o,e,h4,h5,h6,h7⟩:=h3 hne;exact⟨B,o,e,by omega,by omega,h6,h7⟩
def q4G(lo hi:Nat)(w:qgx)(v:qgB)(ps:List Par)(lim:Int):Prop:=∃pv,v=.agg #[pv,lim]/\zA lo hi w pv ps
theorem q8o(la ha lb hb:Nat)(va vb:qgB)(a b:List Int)(w:qgx)(hA:zw la ha w va a)(hB:zw lb hb w vb b) :qhw Ya 31 #[va,vb] w λe w'=>e=.returned (.bool (decide (a=b)))/\w.grownBy w' none:=by
 obtain⟨ba,ca,rfl,b0,h1⟩:=hA.cell;obtain⟨bb,cb,rfl,hl2,h2⟩:=hB.cell;have ⟨H1,H2⟩:=qH h1 h2;clear h1 h2 hA hB;by_cases hlen:a.length=b.length
 ·have HL:=qgv hlen;have a7:((a.length:Int) != (b.length:Int))=false:=by rw[hlen];simp
  clear hlen;go_enter Tp.x31,qp2;go_wp2;go_loopw [5] (λiv wr=>∃k:Nat,iv=.int .i64 k/\k<=a.length/\(∀i,i<k->a[i]?=b[i]?)/\w.grownBy wr none) (λiv _=>(a.length - qi9 iv).toNat)
  case atStart=>exact⟨0,rfl,by omega,λi hi=>absurd hi (by omega),qh1 _ _⟩
  case round=>
   obtain⟨k,rfl,hk,hok,hG⟩:=hrel;have ⟨HOK,HG⟩:=qH hok hG;clear hok;by_cases hlt:k<a.length
   ·have a6:k<b.length:=by have:=HL.out;omega
    obtain⟨A1,o1,rfl,d5,c9,c8,a9⟩:=H1.out (by intro e;rw[e] at hlt;simp at hlt);obtain⟨B1,o2,rfl,c3,b9,b8,a8⟩:=H2.out (by intro e;rw[e] at a6;simp at a6);have x1:=hG.cl (a9 k hlt);have x2:=hG.cl (a8 k a6);have e1:a[k]?=some (a[k]?.getD 0):=by simp[qgG hlt]
    have e2:b[k]?=some (b[k]?.getD 0):=by simp[qgG a6]
    generalize a[k]?.getD 0=x at x1 e1;generalize b[k]?.getD 0=y at x2 e2;have b6:(k:Int)<(b.length:Int):=by omega
    have b7:(k:Int)<(a.length:Int):=by omega
    have ⟨E1,E2⟩:=qH e1 e2;clear a9 a8 hG e1 e2;by_cases hxy:x=y
    ·subst hxy;go_upto_region 6 with(fail);go_quiet (fail);go_wp2;go_roundw
     case rel=>
      refine⟨k+1,by simp,by omega,λi hi=>?_,HG.out.trans (qi _ _ _)⟩;by_cases e:i=k
      ·rw[e,E1.out,E2.out]
      ·exact HOK.out i (by omega)
     case measure=>simp[qi9];omega
    ·have HR:=qgv (show decide (a=b)=false by
      rw[decide_eq_false_iff_not];intro e;have h1:=E1.out;rw[e,E2.out] at h1;exact hxy (by cases h1;rfl))
     have hne:(x != y)=true:=by simp[hxy]
     go_upto_region 6 with(fail);go_quiet (fail);go_wp2;go_ret;exact⟨by rw[HR.out];rfl,HG.out.trans (qi _ _ _)⟩
   ·obtain rfl:k=a.length:=by omega
    have HR:=qgv (show decide (a=b)=true by
     rw[decide_eq_true_eq];refine qls λi=>?_;by_cases hi:i<a.length
     ·exact HOK.out i hi
     ·rw[qi8 (by omega),qi8 (by have:=HL.out;omega)])
    clear hG;go_wp2;go_ret;exact⟨by rw[HR.out];rfl,HG.out⟩
 ·have HR:=qgv (show decide (a=b)=false by
   rw[decide_eq_false_iff_not];intro e;exact hlen (by rw[e]))
  have a7:((a.length:Int) != (b.length:Int))=true:=by simp;omega
  clear hlen;go_enter Tp.x31,qp2;go_wp2;go_ret;exact⟨by rw[HR.out];rfl,qh1 _ _⟩
theorem q8u(lo hi:Nat)(v:qgB)(l:List Int)(w:qgx)(hI:zw lo hi w v l)(hhi:hi<=w.heap.size)(hl:l.length<=1000) :qhw Ya 28 #[v] w λe w'=>∃v',e=.returned v'/\w.grownBy w' none/\w'.ownsRow w.heap.size 3 1 v' l.length (l.map (qhj .i64)):=by
 obtain⟨i0,b7,b6,b0,a9⟩:=qjj Tp.info3p;obtain⟨base,cap,rfl,b8,hc⟩:=hI;rcases base with _ | ad
 ·obtain rfl:l=[]:=qhF λh=>by obtain⟨_,_,e,_⟩:=hc h;cases e
  clear hc;go_enter Tp.x28,qp6;go_wp2;go_ret;exact⟨_,rfl,qgw _ _ none,rfl,.inr ⟨_,0,#[],rfl,qgA _,qgF _ _,qgA _,by decide,rfl,rfl⟩⟩
 ·have hn:∀j u,(l.map (qhj .i64))[j]?=some u->(w.alloc (.cells #[] 3)).cell? (ad.add j)=some u:=λj u hu=>by
   rw[qj7] at hu;cases hj:l[j]? with
   | none=>rw[hj] at hu;cases hu
   | some x=>
    rw[hj] at hu;cases hu;have a8:=(qh9.1 hj).1;obtain⟨B,o,e,h1,h2,h3,h4⟩:=hc (by rintro rfl;simp at a8);cases e;have:=h4 j a8;rw[hj] at this;exact yg ((qgw w _ none).cl this)
  have HN:=qgv hn;clear hc hn;go_enter Tp.x28,qp6;go_wp2_with (at_builtin;(refine qks _ rfl _ _ 29 rfl w.heap.size 3 i0 _ 1 8 Tp.und29' b7 b6 b0 a9 rfl (by decide) (.slice (some w.heap.size) 0 0) 0 [] rfl ⟨rfl,.inr ⟨_,0,#[],rfl,qgA _,qgF _ _,qgA _,by decide,rfl,rfl⟩⟩ ad l.length cap (l.map (qhj .i64)) rfl (by simp) HN.out (by intro u hu;simp at hu;obtain⟨x,_,rfl⟩:=hu;rfl) (by unfold qkq;omega) (by omega) (by simp) ?_);intro v' w7 a6 a7 _;have HO:=qgv a6;have HG:=qgv a7;clear a6 a7);go_ret;refine⟨_,rfl,(qgw _ _ none).andThen HG.out (λj e=>.inl ?_),by simpa using HO.out⟩;simp[qhB] at e;omega
end
section
open Go.RowKit
section
variable{P:qh2}
theorem q0t{ops:Array qiu}{o:qiu}{a:Act}{w:qgx}{K:Act->qgx->Prop}{Q:Exit->Act->qgx->Prop}{E:Prop}(a6:qhv o (qj4 ops a.tmps)=true)(s x:qhE)(t:qh8)(ho:o.op=.call { callee:=.builtin .append,args:=#[s,x],argTypes:=#[t,t] })(base:Nat)(e:qh8)(i:ql2)(z:qgB)(size qng:Nat)(ht:P.underlying t=some (.slice e))(hi:P.info? e=some i)(hz:i.zero=some z)(hsize:i.size=size)(hby:i.bytes=qng)(hzs:z.cells.size=size)(hsz:0<size)(v:qgB)(n:Nat)(xs:List qgB)(hs:a.eval s=v)(hown:w.ownsRow base e size v n xs)(ad:qi5)(m c:Nat)(news:List qgB)(hx:a.eval x=.slice (some ad) m c)(hl:news.length=m*size)(hnews:∀j u,news[j]?=some u->w.cell? (ad.add j)=some u)(h1:∀u∈news,u.oneCell'=true)(h63:n+m<=qkq)(hbytes:(n+m)*qng<=140737488355328)(hbase:base<=w.heap.size)(h:∀v' w',w'.ownsRow base e size v' (n+m) (xs++news)->w.grownBy w' v.ownBlock->K (a.put o.dst v') w') :if qhv o (qj4 ops a.tmps)=true then Oper.wp P o a w K Q else E:=by
 rw[if_pos a6];exact wp_append_own w s x t ho base e i z size qng ht hi hz hsize hby hzs hsz v n xs hs hown ad m c news hx hl hnews h1 h63 hbytes hbase λv' w' h2 h3 _=>h v' w' h2 h3
end
theorem q0H(ps:List Par):(yM ps).length=ps.length*4:=by
 induction ps with
 | nil=>rfl
 | cons p t ih=>unfold yM at ih ⊢;rw[qjr,qio,ih];simp[vf];omega
theorem q89(ps:List Par):∀u∈yM ps,u.oneCell'=true:=by
 intro u hu;unfold yM at hu;obtain⟨p,-,hp⟩:=List.mem_flatMap.1 hu;simp[vf] at hp;rcases hp with rfl | rfl | rfl | rfl<;>rfl
theorem run_append_nil{P:qh2}{t ty e:qh8}{i:ql2}{g c:Nat}{w:qgx}(ht:P.underlying t=some (.slice e))(hi:P.info? e=some i):(qku #[t,t] ty #[.slice (some g) 0 0,.slice none 0 c]).run P w=.ok (.slice (some g) 0 0) w:=by
 simp[qku,qnj ht,sizeOf,qkA,hi,qpB,qoc,qnp]
theorem qfA{lo hi:Nat}{w:qgx}{ad:qi5}{yc:Nat}{ps:List Par}(h:zA lo hi w (.slice (some ad) ps.length yc) ps):∀j u,(yM ps)[j]?=some u->w.cell? (ad.add j)=some u:=λj u hu=>by
 have hj:j<ps.length*4:=by have:=(qh9.1 hu).1;rwa [q0H] at this
 obtain⟨_,_,e,-,h⟩:=h;cases e;obtain⟨B,o,e,-,-,-,h4⟩:=h (by rintro rfl;simp at hj);cases e;obtain⟨p,hp,p0,p1,p2,p3⟩:=h4 (j / 4) (by omega);have a6:=q10 ps (j / 4) p hp (j % 4) (Nat.mod_lt _ (by omega));rw[show j / 4*4+j % 4=j by omega,hu] at a6;have e4:j % 4=0\/j % 4=1\/j % 4=2\/j % 4=3:=by omega
 rcases e4 with e4 | e4 | e4 | e4;all_goals
  rw[e4] at a6;simp[vf] at a6;subst a6;refine yg ?_
 ·rw[show o+j=o+j / 4*4 by omega];exact p0
 ·rw[show o+j=o+j / 4*4+1 by omega];exact p1
 ·rw[show o+j=o+j / 4*4+2 by omega];exact p2
 ·rw[show o+j=o+j / 4*4+3 by omega];exact p3
theorem vZ{ops:Array qiu}{o:qiu}{a:Act}{w:qgx}{K:Act->qgx->Prop}{Q:Exit->Act->qgx->Prop}{E:Prop}(s x:qhE){lo hi L g yc:Nat}{yb:Option qi5}{ps:List Par}(hP:zA lo hi w (.slice yb ps.length yc) ps)(hg:w.heap[g]?=some (.cells #[] 28 (0,0)))(hL:L<=g)(hl:ps.length<=1000)(h:∀vb vc w',w'.ownsRow L 28 4 (.slice vb ps.length vc) ps.length (yM ps)->w.grownBy w' (some g)->K (a.put o.dst (.slice vb ps.length vc)) w')(a7:qhv o (qj4 ops a.tmps)=true:=by kernel_rfl)(ho:o.op=.call { callee:=.builtin .append,args:=#[s,x],argTypes:=#[22,22] }:=by rfl)(hs:a.eval s=.slice (some g) 0 0:=by rfl)(hx:a.eval x=.slice yb ps.length yc:=by rfl) :if qhv o (qj4 ops a.tmps)=true then Oper.wp Ya o a w K Q else E:=by
 obtain⟨i0,a6,b0,a9,a8⟩:=qjj Tp.info28p;have hown:w.ownsRow L 28 4 (.slice (some g) 0 0) 0 []:=⟨rfl,.inr ⟨g,0,#[],rfl,hL,hg,qgA _,by decide,rfl,rfl⟩⟩;have b6:=(qgy.1 hg).1;rcases yb with _ | ad
 ·obtain rfl:ps=[]:=qhF λhn=>by obtain⟨_,_,e,-,h2⟩:=hP;cases e;obtain⟨_,_,e,_⟩:=h2 hn;cases e
  rw[if_pos a7];unfold Oper.wp qk3;simp only[ho,resolve,invoke,builtin,qiy,qms,qiv,qmu,qla,qnh,hs,hx,qhc,run_append_nil Tp.und22 a6];exact h _ _ _ hown (qh1 _ _)
 ·refine q0t a7 s x 22 ho L 28 i0 _ 4 32 Tp.und22 a6 b0 a9 a8 rfl (by decide) _ 0 [] hs hown ad ps.length yc (yM ps) hx (q0H ps) (qfA hP) (q89 ps) (by unfold qkq;omega) (by omega) (by omega) λv' w' h2 h3=>?_;obtain⟨vb,vc,rfl⟩:∃a c,v'=.slice a ps.length c:=by
   rcases h2.2 with⟨rfl,h4⟩ | ⟨g,cap,cur,rfl,_⟩
   ·exact⟨none,0,by rw[show ps.length=0 by omega]⟩
   ·exact⟨_,cap,by rw[qhf]⟩
  rw[qhf,qho] at h2;exact h _ _ _ h2 h3
theorem Yy{ops:Array qiu}{o:qiu}{a:Act}{w:qgx}{K:Act->qgx->Prop}{Q:Exit->Act->qgx->Prop}{E:Prop}(s x:qhE){L G n vc:Nat}{vb:Option qi5}{xs:List qgB}{p:Par}(hown:w.ownsRow L 28 4 (.slice vb n vc) n xs)(hG:w.heap[G]?=some (.cells #[p.mn,p.mx,p.bears,p.tall] 28 (0,0)))(hn:n<=1000)(hL:L<=w.heap.size)(h:∀g c w',w'.ownsRow L 28 4 (.slice (some ⟨g,0,none⟩) (n+1) c) (n+1) (xs++vf p)->w.grownBy w' (qi1 vb n vc).ownBlock->K (a.put o.dst (.slice (some ⟨g,0,none⟩) (n+1) c)) w')(b0:qhv o (qj4 ops a.tmps)=true:=by kernel_rfl)(ho:o.op=.call { callee:=.builtin .append,args:=#[s,x],argTypes:=#[22,22] }:=by rfl)(hs:a.eval s=.slice vb n vc:=by rfl)(hx:a.eval x=.slice (some G) 1 1:=by rfl) :if qhv o (qj4 ops a.tmps)=true then Oper.wp Ya o a w K Q else E:=by
 obtain⟨i0,a9,a8,a7,a6⟩:=qjj Tp.info28p;refine q0t b0 s x 22 ho L 28 i0 _ 4 32 Tp.und22 a9 a8 a7 a6 rfl (by decide) _ n xs hs hown ⟨G,0,none⟩ 1 1 (vf p) hx rfl (qiw hG) (by simp[vf,qjk]) (by unfold qkq;omega) (by omega) hL λv' w' h2 h3=>?_;obtain⟨g,c,rfl⟩:=ownsRow_succ h2;exact h _ _ _ h2 h3
theorem q2h(lo hi:Nat)(yv:qgB)(ps:List Par)(lim:Int)(w:qgx)(hY:q4G lo hi w yv ps lim)(hhi:hi<=w.heap.size)(hl:ps.length<=1000) :qhw Ya 27 #[yv] w λe w'=>∃v',e=.returned (.agg #[v',lim])/\w.grownBy w' none/\qn w.heap.size w'.heap.size w' v' ps:=by
 obtain⟨pv,rfl,hP⟩:=hY;obtain⟨yb,yc,rfl,c9,-⟩:=hP.cell;obtain⟨A,w1,hA,b7,b9,b0,c3,b8⟩:=zp w (.cells #[.slice yb ps.length yc,lim] 24) (.cells #[.slice none 0 0,.int .i64 0] 24);have ⟨HB2,HW,HA,HG,HS,HP⟩:=Kh c3 b7 hA b9 b8 hP;have b6:=qgv (show ∀W,w1.grownBy W none->W.cell? A=some (.slice yb ps.length yc)/\W.cell? ⟨A,1,none⟩=some (.int .i64 lim) from λW h=>⟨q8 (bk h b0) rfl,q8 (bk h b0) rfl⟩);clear hP b7 hA b9 b0 c3 b8;go_enter Tp.x27,Tryz.ntmps27;go_upto_region 1 with(fail);rw[<- HA.out,<- HW.out];refine qJ 7 (λW=>W.cell? A=some (.slice yb ps.length yc)/\W.cell? ⟨A,1,none⟩=some (.int .i64 lim)) (by kernel_rfl) (by kernel_rfl) (b6.out _ (qc w1 none)) (λa7=>?_);simp only[qh3,qhc,qhk,qii,qhf,qhq,qhr,qhC,qho,qhe];refine tk 1 (h:=tk 2 (h:=tk 4 (h:=tk 5 (h:=?_))));try go_frame
 refine rdc 0 λK hK=>?_;go_simp;have HT:=qgv ((qc w1 none).trans (qgw w1.drew (.cells #[] 28) none));refine hK.out _ _ (b6.out _ HT.out) (λa7=>?_);clear hK K;try go_frame
 refine rdc 3 λK hK=>?_;refine vZ (.tmp 3) (.tmp 5) (HP.out.kept (HG.out.trans HT.out)) (qgF w1.drew _) (show A+2<=w1.heap.size by have:=HS.out;omega) hl λvb vc w6 hown a8=>?_;have HO:=qgv hown;have a6:=qgv (qk6 (row:=none) HT.out a8 (λj e=>.inl (by cases e;exact qgA _)));clear hown a8;refine hK.out _ _ (b6.out _ a6.out) (λa7=>?_);clear hK K;try go_frame
 refine tk 6 (h:=?_);try go_frame
 refine⟨by kernel_rfl,?_⟩;simp only[qhu,qia];have z0:=q8 (bk a6.out HB2.out) (o:=0) rfl;have z1:=q8 (bk a6.out HB2.out) (o:=1) rfl;have z2:=qm (o:=0) (bk a6.out HB2.out);have z3:=qm (o:=1) (bk a6.out HB2.out);clear a7;go_wp2;have hz:=qg (o:=1) (v:=.int .i64 lim) (qg (o:=0) (v:=.slice vb ps.length vc) (bk a6.out HB2.out));have a9:=(qe w6 (A+1) 0 (.slice vb ps.length vc)).trans (qe _ (A+1) 1 (.int .i64 lim));have d5:A+1<w6.heap.size:=by have:=a6.out.size;have:=HS.out;omega
 have c8:qn (A+2) w6.heap.size w6 (.slice vb ps.length vc) ps:=qn.own HO.out rfl c9;exact qj8 (v:=.agg #[.slice vb ps.length vc,lim]) (by simp[qjb,Tryz.results27,go_sem,qhs,hz]) rfl ⟨_,rfl,(HG.out.trans a6.out).andThen (row':=some (A+1)) a9 (by rintro j e;cases e;exact .inl (by have:=HA.out;omega)),(c8.kept a9 (by rintro R e;cases e;exact .inl (by omega))).mono (by have:=HA.out;omega) a9.size⟩
def qec(w1:qgx)(A:Nat)(lim:Int)(ps:List Par)(p:Par)(wx:qgx):Prop :=
 ∃vb vc,wx.heap[A]?=some (.cells #[.slice vb (ps.length+1) vc,lim] 24 (0,0))/\w1.grownBy wx (some A)/\qn (A+3) wx.heap.size wx (.slice vb (ps.length+1) vc) (ps++[p])
theorem q9k{w1 w6:qgx}{A g c:Nat}{lim:Int}{ps:List Par}{p:Par}{v:qgB}(hb:w6.heap[A]?=some (.cells #[v,lim] 24 (0,0)))(hg:w1.grownBy w6 none)(ho:w6.ownsRow (A+3) 28 4 (.slice (some g) (ps.length+1) c) (ps.length+1) (yM ps++vf p))(hl:ps.length<=1000) :qec w1 A lim ps p (w6.setCell A (.slice (some g) (ps.length+1) c)):=by
 rw[<- YP] at ho;have a6:=qe w6 A 0 (.slice (some g) (ps.length+1) c);exact⟨_,_,qg (o:=0) hb,(hg.but _).trans a6,((qn.own ho (by simp) (by simp;omega)).kept a6 (by rintro R e;cases e;exact .inl (by omega))).mono (qgA _) a6.size⟩
theorem q7r(lo hi:Nat)(pv:qgB)(ps:List Par)(lim:Int)(p:Par)(w:qgx)(hP:zA lo hi w pv ps)(hl:ps.length<=1000) :qhw Ya 38 #[.agg #[pv,lim],.agg #[p.mn,p.mx,p.bears,p.tall]] w λe w'=>∃v',e=.returned (.agg #[v',lim])/\w.grownBy w' none/\qn w.heap.size w'.heap.size w' v' (ps++[p]):=by
 obtain⟨yb,yc,rfl,d7,-⟩:=hP.cell;obtain⟨A,hA⟩:∃A,A=w.heap.size:=⟨_,rfl⟩;obtain⟨w1,b0⟩:∃w1,w1=((w.alloc (.cells #[.slice yb ps.length yc,lim] 24)).alloc (.cells #[p.mn,p.mx,p.bears,p.tall] 28)).alloc (.cells #[.slice none 0 0,.int .i64 0] 24):=⟨_,rfl⟩;have d5:w.grownBy w1 none:=by rw[b0];exact((qgw _ _ none).trans (qgw _ _ none)).trans (qgw _ _ none)
 have c3:w1.heap[A]?=some (.cells #[.slice yb ps.length yc,lim] 24 (0,0)):=by rw[b0,hA];exact qp (qp (qgF w _))
 have b8:w1.heap[A+1]?=some (.cells #[p.mn,p.mx,p.bears,p.tall] 28 (0,0)):=by
  rw[b0];have:=qgF (w.alloc (.cells #[.slice yb ps.length yc,lim] 24)) (.cells #[p.mn,p.mx,p.bears,p.tall] 28);rw[qh6,<- hA] at this;exact qp this
 have d6:w1.heap[A+2]?=some (.cells #[.slice none 0 0,.int .i64 0] 24 (0,0)):=by
  rw[b0];have:=qgF ((w.alloc (.cells #[.slice yb ps.length yc,lim] 24)).alloc (.cells #[p.mn,p.mx,p.bears,p.tall] 28)) (.cells #[.slice none 0 0,.int .i64 0] 24);rw[qh6,qh6,<- hA] at this;exact this
 have c9:w1.heap.size=A+3:=by rw[b0,qh6,qh6,qh6,hA]
 have ⟨HB1,HB3,HW,HA,HG,HS,HP⟩:=q62 c3 d6 b0 hA d5 c9 hP;have a9:=qgv (show ∀W,w1.grownBy W none->W.cell? A=some (.slice yb ps.length yc)/\W.cell? ⟨A,1,none⟩=some (.int .i64 lim)/\W.cell? (A+1:Nat)=some (.int .i64 p.mn)/\W.cell? ⟨A+1,1,none⟩=some (.int .i64 p.mx)/\W.cell? ⟨A+1,2,none⟩=some (.int .i64 p.bears)/\W.cell? ⟨A+1,3,none⟩=some (.int .i64 p.tall) from λW h=>⟨q8 (bk h c3) rfl,q8 (bk h c3) rfl,q8 (bk h b8) rfl,q8 (bk h b8) rfl,q8 (bk h b8) rfl,q8 (bk h b8) rfl⟩);clear hP b0 hA d5 c3 b8 d6 c9;go_enter Tp.x38,Tryz.ntmps38;go_upto_region 1 with(fail);rw[<- HA.out,<- HW.out];go_cut [] from 5 to 13 (λwx=>qec w1 A lim ps p wx)
 case first=>
  refine qJ 8 (λW=>W.cell? A=some (.slice yb ps.length yc)/\W.cell? ⟨A,1,none⟩=some (.int .i64 lim)/\W.cell? (A+1:Nat)=some (.int .i64 p.mn)/\W.cell? ⟨A+1,1,none⟩=some (.int .i64 p.mx)/\W.cell? ⟨A+1,2,none⟩=some (.int .i64 p.bears)/\W.cell? ⟨A+1,3,none⟩=some (.int .i64 p.tall)) (by kernel_rfl) (by kernel_rfl) (a9.out _ (qc w1 none)) (λa7=>?_);simp only[qh3,qhc,qhk,qii,qhf,qhq,qhr,qhC,qho,qhe];refine tk 1 (h:=tk 2 (h:=tk 4 (h:=?_)));try go_frame
  have HT:=qgv (qc w1 none);refine rdy [0,5] ?_;refine cns 0 (λK hK=>?_) (cns 5 (λK hK=>?_) qU.nil)
  ·go_simp;have HF:=qgv (show(w1.drew.alloc (.cells #[] 28)).heap[w1.heap.size]?=some (.cells #[] 28 (0,0)) by have:=qgF w1.drew (.cells #[] 28);exact this);have b6:=qgv (show A+3<=w1.heap.size by have:=HS.out;omega);replace HT:=qgv (HT.out.trans (qgw w1.drew (.cells #[] 28) none));refine hK.out _ _ (a9.out _ HT.out) (λa7=>?_);clear hK K;try go_frame
   refine rdy [3,5] ?_;refine cns 3 (λK hK=>?_) (cns 5 (λK hK=>?_) qU.nil)
   ·refine vZ (.tmp 5) (.tmp 7) (HP.out.kept (HG.out.trans HT.out)) HF.out (b6.out) hl λvb vc w5 hown a6=>?_;have HO:=qgv hown;replace HT:=qgv (qk6 (row:=none) HT.out a6 (λj e=>.inl (by cases e;have:=b6.out;have:=HS.out;omega)));clear hown a6;refine hK.out _ _ (a9.out _ HT.out) (λa7=>?_);clear hK K;try go_frame
    refine rdc 5 λK hK=>?_;go_simp;have HC:=qgv (show(w5.alloc (.cells #[p.mn,p.mx,p.bears,p.tall] 28)).heap[w5.heap.size]?=some (.cells #[p.mn,p.mx,p.bears,p.tall] 28 (0,0)) by have:=qgF w5 (.cells #[p.mn,p.mx,p.bears,p.tall] 28);exact this);replace HT:=qgv (HT.out.trans (qgw w5 (.cells #[p.mn,p.mx,p.bears,p.tall] 28) none));replace HO:=qgv (HO.out.alloc (.cells #[p.mn,p.mx,p.bears,p.tall] 28));refine hK.out _ _ (a9.out _ HT.out) (λa7=>?_);clear hK K;try go_frame
    refine rdc 6 λK hK=>?_;refine Yy (.tmp 8) (.tmp 10) HO.out HC.out hl (by have:=HT.out.size;have:=HS.out;omega) λg c w6 hown a6=>?_;have b9:=qgv hown;have a8:=qgv (qk6 (row:=none) HT.out a6 (λj e=>.inl (by have:=HO.out.lt j e;have:=HS.out;omega)));clear hown a6;refine hK.out _ _ (a9.out _ a8.out) (λa7=>?_);clear hK K;try go_frame
    refine tk 7 (h:=?_);try go_frame
    refine⟨by kernel_rfl,?_⟩;simp only[qhu,qia];have z0:=q8 (bk a8.out HB1.out) (o:=0) rfl;have z2:=qm (o:=0) (bk a8.out HB1.out);clear a7;go_wp2;go_meet;exact q9k (bk a8.out HB1.out) a8.out b9.out hl
   ·go_simp;have HC:=qgv (show((w1.drew.alloc (.cells #[] 28)).alloc (.cells #[p.mn,p.mx,p.bears,p.tall] 28)).heap[w1.heap.size+1]?=some (.cells #[p.mn,p.mx,p.bears,p.tall] 28 (0,0)) by have:=qgF (w1.drew.alloc (.cells #[] 28)) (.cells #[p.mn,p.mx,p.bears,p.tall] 28);rw[qh6] at this;exact this);replace HT:=qgv (HT.out.trans (qgw (w1.drew.alloc (.cells #[] 28)) (.cells #[p.mn,p.mx,p.bears,p.tall] 28) none));replace HF:=qgv (qp (p:=(.cells #[p.mn,p.mx,p.bears,p.tall] 28)) HF.out);refine hK.out _ _ (a9.out _ HT.out) (λa7=>?_);clear hK K;try go_frame
    refine rdc 3 λK hK=>?_;refine vZ (.tmp 5) (.tmp 7) (HP.out.kept (HG.out.trans HT.out)) HF.out (b6.out) hl λvb vc w5 hown a6=>?_;have HO:=qgv hown;replace HC:=qgv (bk a6 HC.out);replace HT:=qgv (qk6 (row:=none) HT.out a6 (λj e=>.inl (by cases e;have:=b6.out;have:=HS.out;omega)));clear hown a6;refine hK.out _ _ (a9.out _ HT.out) (λa7=>?_);clear hK K;try go_frame
    refine rdc 6 λK hK=>?_;refine Yy (.tmp 8) (.tmp 10) HO.out HC.out hl (by have:=HT.out.size;have:=HS.out;omega) λg c w6 hown a6=>?_;have b9:=qgv hown;have a8:=qgv (qk6 (row:=none) HT.out a6 (λj e=>.inl (by have:=HO.out.lt j e;have:=HS.out;omega)));clear hown a6;refine hK.out _ _ (a9.out _ a8.out) (λa7=>?_);clear hK K;try go_frame
    refine tk 7 (h:=?_);try go_frame
    refine⟨by kernel_rfl,?_⟩;simp only[qhu,qia];have z0:=q8 (bk a8.out HB1.out) (o:=0) rfl;have z2:=qm (o:=0) (bk a8.out HB1.out);clear a7;go_wp2;go_meet;exact q9k (bk a8.out HB1.out) a8.out b9.out hl
  ·go_simp;have HC:=qgv (show(w1.drew.alloc (.cells #[p.mn,p.mx,p.bears,p.tall] 28)).heap[w1.heap.size]?=some (.cells #[p.mn,p.mx,p.bears,p.tall] 28 (0,0)) by have:=qgF w1.drew (.cells #[p.mn,p.mx,p.bears,p.tall] 28);exact this);replace HT:=qgv (HT.out.trans (qgw w1.drew (.cells #[p.mn,p.mx,p.bears,p.tall] 28) none));refine hK.out _ _ (a9.out _ HT.out) (λa7=>?_);clear hK K;try go_frame
   refine rdc 0 λK hK=>?_;go_simp;have HF:=qgv (show((w1.drew.alloc (.cells #[p.mn,p.mx,p.bears,p.tall] 28)).alloc (.cells #[] 28)).heap[(w1.heap.size+1)]?=some (.cells #[] 28 (0,0)) by have:=qgF (w1.drew.alloc (.cells #[p.mn,p.mx,p.bears,p.tall] 28)) (.cells #[] 28);rw[qh6] at this;exact this);have b6:=qgv (show A+3<=(w1.heap.size+1) by have:=HS.out;omega);replace HT:=qgv (HT.out.trans (qgw (w1.drew.alloc (.cells #[p.mn,p.mx,p.bears,p.tall] 28)) (.cells #[] 28) none));replace HC:=qgv (qp (p:=.cells #[] 28) HC.out);refine hK.out _ _ (a9.out _ HT.out) (λa7=>?_);clear hK K;try go_frame
   refine rdc 3 λK hK=>?_;refine vZ (.tmp 5) (.tmp 7) (HP.out.kept (HG.out.trans HT.out)) HF.out (b6.out) hl λvb vc w5 hown a6=>?_;have HO:=qgv hown;replace HC:=qgv (bk a6 HC.out);replace HT:=qgv (qk6 (row:=none) HT.out a6 (λj e=>.inl (by cases e;have:=b6.out;have:=HS.out;omega)));clear hown a6;refine hK.out _ _ (a9.out _ HT.out) (λa7=>?_);clear hK K;try go_frame
   refine rdc 6 λK hK=>?_;refine Yy (.tmp 8) (.tmp 10) HO.out HC.out hl (by have:=HT.out.size;have:=HS.out;omega) λg c w6 hown a6=>?_;have b9:=qgv hown;have a8:=qgv (qk6 (row:=none) HT.out a6 (λj e=>.inl (by have:=HO.out.lt j e;have:=HS.out;omega)));clear hown a6;refine hK.out _ _ (a9.out _ a8.out) (λa7=>?_);clear hK K;try go_frame
   refine tk 7 (h:=?_);try go_frame
   refine⟨by kernel_rfl,?_⟩;simp only[qhu,qia];have z0:=q8 (bk a8.out HB1.out) (o:=0) rfl;have z2:=qm (o:=0) (bk a8.out HB1.out);clear a7;go_wp2;go_meet;exact q9k (bk a8.out HB1.out) a8.out b9.out hl
 case rest=>
  obtain⟨vb,vc,hb,hg,hp⟩:=hcut;have z0:=q8 hb (o:=0) rfl;have z1:=q8 hb (o:=1) rfl;have b7:=bk hg HB3.out;have z2:=q8 b7 (o:=0) rfl;have z3:=q8 b7 (o:=1) rfl;have z4:=qm (o:=0) b7;have z5:=qm (o:=1) b7;have ⟨HB4,HP4,HG4⟩:=z8 b7 hp hg;clear hb b7 hp hg;go_wp2;have hz:=qg (o:=1) (v:=.int .i64 lim) (qg (o:=0) (v:=.slice vb (ps.length+1) vc) HB4.out);have c8:=(qe wc (A+2) 0 (.slice vb (ps.length+1) vc)).trans (qe _ (A+2) 1 (.int .i64 lim));exact qj8 (v:=.agg #[.slice vb (ps.length+1) vc,lim]) (by simp[qjb,Tryz.results38,go_sem,qhs,hz]) rfl ⟨_,rfl,((qh1 w none).andThen (HG.out.andThen (row:=none) HG4.out (by rintro j e;cases e;exact .inl (by have:=HA.out;omega))) (λj e=>by cases e)).andThen (row':=some (A+2)) c8 (by rintro j e;cases e;exact .inl (by have:=HA.out;omega)),(HP4.out.kept c8 (by rintro R e;cases e;exact .inl (by omega))).mono (by have:=HA.out;omega) c8.size⟩
end
section
open Go.RowKit
theorem Qw:∀(n:Nat) (l:List Int),l.Nodup->(∀x∈l,0<=x/\x<n)->l.length<=n
 | 0,l,_,h=>by
  cases l with
  | nil=>simp
  | cons x _=>have:=h x (by simp);omega
 | n+1,l,hd,h=>by
  by_cases hm:(n:Int)∈l
  ·have h1:=Qw n (l.erase n) (hd.erase _) λx hx=>by
    have h2:=(hd.mem_erase_iff).1 hx;have:=h x h2.2;have:=h2.1;omega
   have:=List.length_erase_of_mem hm;omega
  ·have:=Qw n l hd λx hx=>by
    have h2:=h x hx;have:x≠n:=λe=>hm (e ▸ hx);omega
   omega
structure OnAt(w:qgx)(Bm Y Bp:Nat)(yb pb:Option qi5)(yc pc:Nat)(ps:List Par)(lim:Int)(l:List Int):Prop where
 m0:w.cell? Bm=some (.int .u8 (zc l:Nat))
 y0:w.cell? Y=some (.slice yb ps.length yc)
 y1:w.cell? ⟨Y,1,none⟩=some (.int .i64 lim)
 p0:w.cell? Bp=some (.slice pb l.length pc)
 hP:qn 0 w.heap.size w (.slice yb ps.length yc) ps
 hI:qf 0 w.heap.size w (.slice pb l.length pc) l
 pl:l.length<=pc
end
section
theorem q3a(l:List Int)(x:Int):tot (l++[x])=tot l+x:=by
 induction l with
 | nil=>simp[tot]
 | cons a t ih=>simp only[qhe,tot,ih];omega
end
section
open Go.RowKit
@[simp] theorem qgo(w:qgx):(method 355 170 (.agg #[]) "gladstone/pile.holds").run Ya w=.ok (241,.agg #[]) w:=by kernel_rfl
@[simp] theorem qgn(w:qgx):(method 355 171 (.agg #[]) "gladstone/pile.holds").run Ya w=.ok (242,.agg #[]) w:=by kernel_rfl
end
section


end
section
open Go.RowKit
theorem q3r(lo hi:Nat)(pv:qgB)(ps:List Par)(lim:Int)(p:Par)(b g:Nat)(w:qgx)(hP:zA lo hi w pv ps)(ht:qO w b g)(hg:g<100000) :qhw Ya 25 #[.agg #[pv,lim],.agg #[p.mn,p.mx,p.bears,p.tall],.pointer (some b)] w λe w' =>∃ms ml mv wv Z,qcc 4 ms ml/\e=.returned (.slice (some ⟨Z,0,none⟩) 3 3)/\Tn b (g+31) w w'/\w.heap.size<=Z/\w'.heap[Z]?=some (.cells #[pv,lim,mv,.int .i64 ml,wv,.int .i64 ml] 24 (0,0)) /\qn w.heap.size w'.heap.size w' mv ms/\qn w.heap.size w'.heap.size w' wv (ms++[p]):=by
 obtain⟨yb,yc,rfl,d9,hc⟩:=hP.cell;obtain⟨A,w1,hA,a9,c8,d5,c9,-⟩:=zp w (.cells #[.slice yb ps.length yc,lim] 24) (.cells #[p.mn,p.mx,p.bears,p.tall] 28);have ht1:qO w1 b g:=by rw[a9];exact(ht.alloc _).alloc _
 have e6:b<A:=by rw[hA];exact ht.lt
 have ⟨HT1,HW,HA,HG1,HB1,HB2⟩:=Kh ht1 a9 hA c8 d5 c9;clear hP hc a9 hA c8 d5 c9 ht ht1;go_enter Tp.x25,Tryz.ntmps25;go_upto_region 1 with(fail);rw[<- HA.out,<- HW.out];go_upto_region 2 with(go_at_call 33;refine(q56 b g 4 w1 HT1.out hg (by omega)).mono ?_;rintro e w2 ⟨ms,ml,mv,b8,rfl,c3,b0⟩;have N2:=qgv c3;have P2:=qgv b0;have YD:=qgv b8;obtain⟨mb,mc,rfl,e5,-⟩:=b0.cell;clear c3 b0 b8);obtain⟨M,hM⟩:∃M,M=w2.heap.size:=⟨_,rfl⟩;rw[<- hM];have a6:=qgw w2 (.cells #[.slice mb ms.length mc,.int .i64 ml] 24) none;have e4:ms.length<=4:=YD.out.len;refine yU (λu=>w.grownBy u (some b)/\qO u b (g+31)/\M<u.heap.size/\u.heap[A]?=some (.cells #[.slice yb ps.length yc,lim] 24 (0,0))/\u.heap[A+1]?=some (.cells #[p.mn,p.mx,p.bears,p.tall] 28 (0,0))/\u.heap[M]?=some (.cells #[.slice mb ms.length mc,.int .i64 ml] 24 (0,0))/\qn w.heap.size u.heap.size u (.slice mb ms.length mc) ms)
  ⟨((((qh1 w (some b)).andThen HG1.out (λj e=>by cases e)).andThen N2.out.1 (λj e=>.inr e)).andThen a6 (λj e=>by cases e)),N2.out.2.alloc _,by rw[qh6];omega,bk a6 (blk N2.out.1 (by simp;omega) HB1.out),bk a6 (blk N2.out.1 (by simp;omega) HB2.out),by rw[hM];exact qgF _ _,(P2.out.alloc _).mono HG1.out.size a6.size⟩ (λu hF=>?_)
 obtain⟨f1,f2,f3,f4,f5,f6,f7⟩:=hF;have b7:=qgv (show ∀w',u.grownBy w' none->w'.cell? A=some (.slice yb ps.length yc)/\w'.cell? ⟨A,1,none⟩=some (.int .i64 lim)/\w'.cell? (A+1:Nat)=some (.int .i64 p.mn)/\w'.cell? ⟨A+1,1,none⟩=some (.int .i64 p.mx)/\w'.cell? ⟨A+1,2,none⟩=some (.int .i64 p.bears)/\w'.cell? ⟨A+1,3,none⟩=some (.int .i64 p.tall)/\w'.cell? M=some (.slice mb ms.length mc)/\w'.cell? ⟨M,1,none⟩=some (.int .i64 ml) from λw' h=>⟨q8 (bk h f4) rfl,q8 (bk h f4) rfl,q8 (bk h f5) rfl,q8 (bk h f5) rfl,q8 (bk h f5) rfl,q8 (bk h f5) rfl,q8 (bk h f6) rfl,q8 (bk h f6) rfl⟩);have b9:w.heap.size<=u.heap.size:=f1.size;have ⟨F1,F2,F7⟩:=z8 f1 f2 f7;have d7:Hid ((ms++[p]).length=ms.length+1):=qgv (by simp);clear N2 P2 HT1 HB1 HB2 HG1 a6 hM f1 f2 f3 f4 f5 f6 f7;refine qJ 6 (λw'=>w'.cell? A=some (.slice yb ps.length yc)/\w'.cell? ⟨A,1,none⟩=some (.int .i64 lim)/\w'.cell? (A+1:Nat)=some (.int .i64 p.mn)/\w'.cell? ⟨A+1,1,none⟩=some (.int .i64 p.mx)/\w'.cell? ⟨A+1,2,none⟩=some (.int .i64 p.bears)/\w'.cell? ⟨A+1,3,none⟩=some (.int .i64 p.tall)/\w'.cell? M=some (.slice mb ms.length mc)/\w'.cell? ⟨M,1,none⟩=some (.int .i64 ml)) (by kernel_rfl) (by kernel_rfl) (b7.out _ (qc u none)) (λa7=>?_);simp only[qh3,qhc,qhk,qii,qhf,qhq,qhr,qhC,qho,qhe];refine tk 0 (h:=tk 1 (h:=tk 2 (h:=tk 3 (h:=?_))));try go_frame
 refine rdc 4 λK hK=>?_;go_simp;go_at_call 38;refine(q7r 0 u.heap.size _ ms ml p u.drew ((F7.out.kept (qc u none)).mono (qhx _) (qgA _)).g (by omega)).mono ?_;rintro e w6 ⟨wv,rfl,b6,a8⟩;have G6:=qgv ((qc u none).trans b6);have d6:=b6.size;obtain⟨wb,wc,rfl,-,-⟩:=a8.cell;rw[d7.out] at a8 ⊢;have P6:=qgv a8;refine hK.out _ _ (b7.out _ G6.out) (λa7=>?_);clear b6 a8;try go_frame
 refine rdc 5 λK hK=>?_;go_simp;have a6:=qgw w6 (.cells #[.slice yb ps.length yc,lim,.slice mb ms.length mc,.int .i64 ml,.slice wb (ms.length+1) wc,.int .i64 ml] 24) none;refine hK.out _ _ (b7.out _ (G6.out.trans a6)) (λa7=>?_);try go_frame
 refine⟨by kernel_rfl,?_⟩;simp only[qhu,qia];have d8:=qgv a6;clear a7 a6;go_wp2;go_ret;have a6:=d8.out;refine⟨ms,ml,_,_,w6.heap.size,YD.out,rfl,⟨(F1.out.andThen G6.out (λj e=>by cases e)).andThen a6 (λj e=>by cases e),(F2.out.kept G6.out).alloc _⟩,qh0 b9 d6,qgF _ _,?_,?_⟩
 ·exact((F7.out.kept G6.out).alloc _).mono (qgA _) (qh0 G6.out.size a6.size)
 ·exact(P6.out.alloc _).mono b9 a6.size
theorem q88(lo:Nat)(lv pv:qgB)(l:List Int)(ps:List Par)(lim n:Int)(b g:Nat)(w:qgx)(hL:∃lb lc,lv=.slice lb l.length lc)(hP:qn lo w.heap.size w pv ps)(hlo:b<lo)(ht:qO w b g)(hg:g<90000)(h5:ps.length<=5)(e6:0<=lim)(hl2:lim<=1000)(c8:∀p∈ps,0<=p.tall/\p.tall<=100) :qhw Ya 26 #[lv,.agg #[pv,lim],n,.pointer (some b)] w λe w' =>∃m mb mc ab ac Z,POk ps lim m/\e=.returned (.slice (some ⟨Z,0,none⟩) 3 3)/\Tn b (g+11) w w'/\w.heap.size<=Z/\w'.heap[Z]?=some (.cells #[lv,.slice mb m.length mc,.slice ab (m.length+1) ac] 29 (0,0)) /\qf w.heap.size w'.heap.size w' (.slice mb m.length mc) m/\m.length<=mc/\qf w.heap.size w'.heap.size w' (.slice ab (m.length+1) ac) (m++[n])/\m.length+1<=ac:=by
 obtain⟨i0,e7,d9,d8,d7⟩:=qjj Tp.info3p;obtain⟨lb,lc,rfl⟩:=hL;obtain⟨yb,yc,rfl,g5,-⟩:=hP.cell;obtain⟨A,w1,hA,a9,a7,b9⟩:=zr w (.cells #[.slice yb ps.length yc,lim] 24);have ht1:qO w1 b g:=by rw[a9];exact ht.alloc _
 have e9:=qgv ((hP.kept a7).mono (qgA _) a7.size);have q0:=q8 b9 (o:=0) rfl;have q1:=q8 b9 (o:=1) rfl;have ⟨HT1,HW,HA,HG1,HTA⟩:=ZS ht1 a9 hA a7 c8;clear hP a9 hA a7 b9 ht ht1 c8;go_enter Tp.x26,Tryz.ntmps26;go_upto_region 1 with(fail);rw[<- HA.out,<- HW.out];go_upto_region 2 with(go_at_call 34;refine(q64 b g lo _ ps lim w1 HT1.out hg e9.out hlo h5 e6 hl2 HTA.out).mono ?_;rintro e w2 ⟨m,mv,d5,rfl,d6,b6,a8⟩;have N2:=qgv d6;have I2:=qgv b6;have PK:=qgv d5;obtain⟨mb,mc,rfl,g7,-⟩:=b6.cell;have hmc:m.length<=mc:=a8 _ _ _ rfl;clear d6 b6 d5 a8);have e5:m.length<=100:=PK.out.len;have c3:w.heap.size<=w2.heap.size:=qh0 HG1.out.size N2.out.1.size;go_wp2_with (first
  | (go_at_call 28;refine(qb9 0 _ _ m w2 (I2.out.mono (qhx _) (qgA _)) (qgA _) (by omega)).mono ?_;rintro e w3 ⟨kv,rfl,b8,b0⟩;obtain⟨ka,kc,rfl,-⟩:=q12 b0;have KO:=qgv b0;have G3:=qgv b8;have g6:=b8.size;clear b8 b0)
  | (at_builtin;(refine qks _ rfl _ _ 29 rfl w2.heap.size 3 i0 _ 1 8 Tp.und29' e7 d9 d8 d7 rfl (by decide) (.slice ka m.length kc) m.length _ rfl (KO.out.alloc _) ⟨w3.heap.size,0,none⟩ 1 1 [.int .i64 n] rfl rfl (qiw (cs:=#[n]) (t:=3) (fr:=(0,0)) (qgF w3 _)) (by simp[qjk]) (by unfold qkq;omega) (by omega) (by simp;omega) ?_);intro v4 w4 hown a6 _;obtain⟨g4,c4,rfl⟩:=ownsRow_succ hown;have X4:=qgv hown;have G4:=qgv (qk6 (row:=none) (G3.out.trans (qgw _ _ none)) a6 (λj e=>.inl (KO.out.lt j e).1));have c9:=G4.out.size;clear hown a6))
 go_ret;have hx:=X4.out;have e4:qf w2.heap.size w4.heap.size w4 (.slice (some g4) (m.length+1) c4) (m++[n]):=by
  have:=qf.own (l:=m++[n]) (by simpa using hx) (by simp;omega);exact this
 have e8:m.length+1<=c4:=by
  rcases hx.2 with⟨e,-⟩ | ⟨g,cap,cur,e,-,-,hc,-⟩
  ·cases e
  ·cases e;exact hc
 have b7:=qgw w4 (.cells #[.slice lb l.length lc,.slice mb m.length mc,.slice (some g4) (m.length+1) c4] 29) none;refine⟨m,mb,mc,some ⟨g4,0,none⟩,c4,w4.heap.size,PK.out,rfl,⟨((((qh1 w (some b)).andThen HG1.out (λj e=>by cases e)).andThen N2.out.1 (λj e=>.inr e)).andThen G4.out (λj e=>by cases e)).andThen b7 (λj e=>by cases e),(N2.out.2.kept G4.out).alloc _⟩,qh0 c3 c9,qgF _ _,?_,hmc,?_,e8⟩
 ·exact(((I2.out.kept G4.out).alloc _)).mono HG1.out.size (qh0 c9 b7.size)
 ·exact(e4.alloc _).mono c3 b7.size
theorem qeE(a b c d e f g h:Int)(w:qgx):(Op.equalIn 10000 28 (.agg #[a,b,c,d]) (.agg #[e,f,g,h])).run Ya w=.ok (decide (a=e/\b=f/\c=g/\d=h)) w:=by
 have a7:Ya.underlying 26=Tryz.prog.underlying 26:=Tp.und 26;have a6:Ya.underlying 28=Tryz.prog.underlying 28:=Tp.und 28;have u3:Ya.underlying 3=some (.int .i64):=by rw[Tp.und];exact Tryz.underlying3
 have hS:Ya.underlying 28=some (.struct (Ya.fieldsOf 28)):=by kernel_rfl
 have a9:Ya.underlying 26=some (.struct (Ya.fieldsOf 26)):=by kernel_rfl
 have hp:Ya.stoodInHeld 28=false:=by kernel_rfl
 have a8:Ya.stoodInHeld 26=false:=by kernel_rfl
 rw[show(10000:Nat)=9998+1+1 from rfl,run_equalIn_agg w (9998+1) 28 _ _ hS hp];simp only[Program.fieldsOf,a6,Tryz.underlying28];go_simp;by_cases h1:a=e<;>by_cases h2:b=f<;>by_cases h3:c=g<;>by_cases h4:d=h<;>simp[h1,h2,h3,h4]
theorem qd3(a b c d e f g h:Int)(w:qgx):(binOp .neq 28 (.agg #[a,b,c,d]) (.agg #[e,f,g,h])).run Ya w=.ok (.bool (!decide (a=e/\b=f/\c=g/\d=h))) w:=by
 rw[run_neq_struct,qeE];rfl
theorem q8a(op:BinOp)(x y:qhE)(a b:Array qgB)(w:qgx):(eqGuard op 28 x y (.agg a) (.agg b)).run Ya w=.ok () w:=run_eqGuard_agg w op 28 x y a b (by kernel_rfl)
theorem q01(la ha lb hb:Nat)(va vb:qgB)(a b:List Par)(l1 l2:Int)(w:qgx)(hA:q4G la ha w va a l1)(hB:q4G lb hb w vb b l2) :qhw Ya 32 #[va,vb] w λe w'=>e=.returned (.bool (decide (l1=l2/\a=b)))/\w.grownBy w' none:=by
 obtain⟨pa,rfl,hA⟩:=hA;obtain⟨pb,rfl,hB⟩:=hB;obtain⟨ba,ca,rfl,e8,h1⟩:=hA.cell;obtain⟨bb,cb,rfl,hl2,h2⟩:=hB.cell;obtain⟨X,w1,hX,d8,e4,b7,b6,-⟩:=zp w (.cells #[.slice ba a.length ca,l1] 24) (.cells #[.slice bb b.length cb,l2] 24);have ⟨H1,H2,HW,HX,HG1⟩:=ZS h1 h2 d8 hX e4;have q0:=q8 b7 (o:=0) rfl;have q1:=q8 b7 (o:=1) rfl;have q2:=q8 b6 (o:=0) rfl;have q3:=q8 b6 (o:=1) rfl;clear h1 h2 hA hB d8 hX e4 b7 b6;by_cases a7:l1=l2;rotate_left
 ·have HR:=qgv (show decide (l1=l2/\a=b)=false from decide_eq_false λh=>a7 h.1);have hne:(l1 != l2)=true:=by simp[a7]
  clear a7;go_enter Tp.x32,qqq;go_upto_region 1 with(fail);rw[<- HX.out,<- HW.out];go_wp2;go_ret;exact⟨by rw[HR.out];rfl,HG1.out⟩
 subst a7;rw[show decide (l1=l1/\a=b)=decide (a=b) by simp];by_cases hlen:a.length=b.length
 ·have HL:=qgv hlen;have b0:((a.length:Int) != (b.length:Int))=false:=by rw[hlen];simp
  clear hlen;go_enter Tp.x32,qqq;go_upto_region 1 with(fail);rw[<- HX.out,show(w.alloc (.cells #[.slice ba a.length ca,l1] 24)).alloc (.cells #[.slice bb b.length cb,l1] 24)=w1 from HW.out.symm];go_wp2;go_loopw [5] (λiv wr=>∃k:Nat,iv=.int .i64 k/\k<=a.length/\(∀i,i<k->a[i]?=b[i]?)/\w1.grownBy wr none) (λiv _=>(a.length - qi9 iv).toNat)
  case atStart=>exact⟨0,rfl,by omega,λi hi=>absurd hi (by omega),qh1 _ _⟩
  case round=>
   obtain⟨k,rfl,hk,hok,hG⟩:=hrel;have ⟨HOK,HG⟩:=qH hok hG;have r0:=hG.cl q0;have r2:=hG.cl q2;clear hok;by_cases hlt:k<a.length
   ·have a9:k<b.length:=by have:=HL.out;omega
    obtain⟨A1,o1,rfl,-,-,-,e6⟩:=H1.out (by intro e;rw[e] at hlt;simp at hlt);obtain⟨B1,o2,rfl,-,-,-,e5⟩:=H2.out (by intro e;rw[e] at a9;simp at a9);obtain⟨p,e1,d7,d6,d5,c9⟩:=e6 k hlt;obtain⟨q,e2,c8,c3,b9,b8⟩:=e5 k a9;have a6:=HG1.out.trans hG;have x1:=a6.cl d7;have x2:=a6.cl d6;have x3:=a6.cl d5;have x4:=a6.cl c9;have y1:=a6.cl c8;have y2:=a6.cl c3;have y3:=a6.cl b9;have y4:=a6.cl b8;obtain⟨p1,p2,p3,p4⟩:=p;obtain⟨z1,z2,z3,z4⟩:=q;dsimp only at x1 x2 x3 x4 y1 y2 y3 y4;have e9:(k:Int)<(b.length:Int):=by omega
    have g5:(k:Int)<(a.length:Int):=by omega
    have ⟨E1,E2⟩:=qH e1 e2;clear e6 e5 hG e1 e2 d7 d6 d5 c9 c8 c3 b9 b8 a6;have d9:=qd3 p1 p2 p3 p4 z1 z2 z3 z4;have hbg:=q8a .neq (.tmp 31) (.tmp 36) #[p1,p2,p3,p4] #[z1,z2,z3,z4];by_cases a8:p1=z1/\p2=z2/\p3=z3/\p4=z4
    ·rw[decide_eq_true a8] at d9;have e7:=qgv a8;clear a8;go_upto_region 6 with(fail);go_quiet (fail);go_wp2;go_roundw
     case rel=>
      refine⟨k+1,by simp,by omega,λi hi=>?_,HG.out.trans (qi _ _ _)⟩;by_cases e:i=k
      ·obtain⟨rfl,rfl,rfl,rfl⟩:=e7.out;rw[e,E1.out,E2.out]
      ·exact HOK.out i (by omega)
     case measure=>simp[qi9];omega
    ·rw[decide_eq_false a8] at d9;have HR:=qgv (show decide (a=b)=false by
      rw[decide_eq_false_iff_not];intro e;have h1:=E1.out;rw[e,E2.out] at h1;exact a8 (by cases h1;exact⟨rfl,rfl,rfl,rfl⟩))
     clear a8;go_upto_region 6 with(fail);go_quiet (fail);go_wp2;go_ret;exact⟨by rw[HR.out];rfl,HG1.out.trans (HG.out.trans (qi _ _ _))⟩
   ·obtain rfl:k=a.length:=by omega
    have HR:=qgv (show decide (a=b)=true by
     rw[decide_eq_true_eq];refine qls λi=>?_;by_cases hi:i<a.length
     ·exact HOK.out i hi
     ·rw[qi8 (by omega),qi8 (by have:=HL.out;omega)])
    clear hG;go_wp2;go_ret;exact⟨by rw[HR.out];rfl,HG1.out.trans HG.out⟩
 ·have HR:=qgv (show decide (a=b)=false by
   rw[decide_eq_false_iff_not];intro e;exact hlen (by rw[e]))
  have b0:((a.length:Int) != (b.length:Int))=true:=by simp;omega
  clear hlen;go_enter Tp.x32,qqq;go_upto_region 1 with(fail);rw[<- HX.out,show(w.alloc (.cells #[.slice ba a.length ca,l1] 24)).alloc (.cells #[.slice bb b.length cb,l1] 24)=w1 from HW.out.symm];go_wp2;go_ret;exact⟨by rw[HR.out];rfl,HG1.out⟩
end
end Go.Proofs.YtidgnkmjgioapaaGreat
