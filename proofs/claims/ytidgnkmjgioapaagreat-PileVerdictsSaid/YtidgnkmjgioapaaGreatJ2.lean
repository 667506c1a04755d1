/-
  Part 5 of the proof. gladstonelaw04.PileVerdicts answers true for every yard, parcel, pile, number and list of numbers that the statement takes, and leaves its arguments as they were. No conditions.
-/
import Derived.Test.YtidgnkmjgioapaaGreatJ1
import Derived.Conc.AtomicLaws2
import Derived.StillTailTactics
set_option maxRecDepth 100000
set_option maxHeartbeats 8000000
set_option linter.all false
open Array renaming eq_empty_of_size_eq_zero->qmG,getD_eq_getD_getElem?->qjn,getElem?_append->qln,getElem?_append_left->qnu,getElem?_eq_getElem->qip,getElem?_eq_some_iff->qhB,getElem?_push->qm7,getElem?_setIfInBounds->qj2,getElem?_setIfInBounds_ne->qjj,getElem_append->qqr,mem_append->qlf,mem_of_getElem?->qk4,range->qlH,replicate->qj4,replicate_succ->qij,replicate_zero->qik
open Bool renaming and_eq_true->qio,and_eq_true_iff->qqq,false_eq_true->qiC,not_eq_true'->qkD,not_false->qmF,not_true->qng
open Classical renaming byContradiction->qiG,em->qnB
open Go renaming Addr->qj5,Calls->qiw,Code->qkk,Deferred->qk6,Event->qjs,Frame->qi5,FuncId->qjf,Goroutine->qhD,Item->qm1,Oper->qjx,Operand->qj0,Program->qi4,Question->qk9,TypeId->qid,TypeInfo->qm8,Value->qhC,World->qhy,bodyPost_ret->qjw,bytes->qoo,callDeferred->qk8,doReturn->qkc,execOp->ql0,goexitEntry->qqp,grownCap->qm4,heap_alloc_new->qhH,heap_setCell_other->qlt,heap_setCell_same->qps,info_parts->qk1,maxLen->qlc,ownsRow_succ->qme,results->qkh,run_underlying->qoq,stepG->qjc,step_append_lies->qn0,storeCells->qow,tryRecover->qis,typeInfo->qlG,undef->qhE,unwind->qmr,wpList_append_own->ql8,yielded->qjG
open Go.Builtin renaming append_->qlz,firstCells->qpj,lenOf->qqE,min_->qpe,zeroCells->qkl
open Go.Calls renaming quiet_of_same->qk7
open Go.Conc renaming base->qir,baseD->qju,dcall->qse,Goes->qnm,QuitsD->qpl,events_results_tmp->qo8,run_call_body->qnj,stepG_add_atomic->qmi,stepG_block->qod,stepG_load_atomic->qmu,stepG_region_end->qhF,stepG_seq->qif,stepG_skip->qjr
open Go.Conc.Goes renaming stop->qkd
open Go.ConcN renaming WgLive->qkF
open Go.ConcR renaming DC0->qol
open Go.Frame renaming catches->qpv,enter->qj1,finish_at->qkm
open Go.GStep renaming after->qjg
open Go.IntKind renaming wrap_i64->qnE
open Go.IntWalk renaming i64_in->qiv
open Go.Lib renaming hid->qhw
open Go.MemAct renaming ofEvent->qjy,touch?->qkj
open Go.Proofs.Tryz renaming f136->qoA,f139->qmk,f141->qoC,f142->qof,f143->qpg,f82->qqm,f85->qlD,func139->qq8,func142->qor,ntmps28->qq9,ntmps31->qq5,ntmps32->qrr,prog->qi8
open Go.Region renaming binds->qj8,ready->qil,wanted->qiy
open Go.Result renaming andThen_ok->qjv
open Go.RowKit renaming intOf->qj7
open Go.Sem renaming run_bind->qjz,run_pure->qn8
open Go.Value renaming cells->qp3,int->qim,oneCell'->qjF,ownBlock->qiF,slice->qiH
open Go.World renaming cell?->qiA,frozen?->qlw,grownBy_alloc->qhx,news_of_block->qjh,ownsRow_nil->qjE,setCell->qki,size_alloc->qi6
open Go.World.grownBy renaming andThen->ql7,refl->qi2
open List renaming all_eq_true->qje,append_assoc->qkt,cons_append->qi9,count_cons->qqd,drop_succ_cons->qig,drop_zero->qit,eq_nil_of_length_eq_zero->qjq,ext_getElem?->qmx,filter_append->qlF,find?_eq_none->qmp,flatMap_cons->qku,getElem?_drop->qmn,getElem?_eq_getElem->qhG,getElem?_eq_none->qjd,getElem?_eq_some_iff->qic,getElem?_map->qjA,getElem?_range->qll,getElem?_take->qn9,getElem?_take_of_lt->qjC,getElem_mem->qnD,length_append->qjm,length_cons->qi3,length_filter_le->qko,length_map->qlB,length_nil->qi7,length_pos_iff->qm9,length_take->qkC,map_append->qk0,map_cons->qle,map_nil->qna,map_toArray->qn1,mem_append->qkn,mem_cons->qjB,mem_map->qmc,mem_of_getElem?->qih,mem_range->qkg,mem_singleton->qkv,mem_toArray->qlh,nil_append->qin,not_mem_nil->qk5,push_toArray->qiq,range->qiz,size_toArray->qiu,take_add_one->qja,take_length->qjt,take_of_length_le->qlx
open List.range renaming loop->qj9
open Nat renaming le_of_eq->qn5,le_refl->qhz,le_trans->qi1,lt_of_lt_of_le->qia,lt_or_ge->qk2,reduceAdd->qii,reduceSub->qiB,zero_add->qib,zero_le->qix
open Option renaming bind_eq_some_iff->qjb,getD_some->qi0,map_some->qjo,mem_toList->qrq
open Option.some renaming injEq->qj3
namespace Go.Proofs.YtidgnkmjgioapaaGreat
section
open Go Go.RowKit Go.Conc Go.ConcN Go.ConcN.Gen Go.Conc.Lib Go.ConcR.Gen Go.Co Go.Sim
noncomputable def bot:qi5:={ (default:qi5) with fn:=Tryz.prog.funcs.size,mode:=.panicking [qqp] }
def dn(a:Nat):List qk6:=[qse 140 #[pt a]]
section
variable{Fz:Bs}{K:qhy->qhy->Prop}{Stop:Bs->qhD->qhy->Prop}{S:Bs}(hK:∀a b c,K a b->K b c->K a c)
include hK
theorem qbn[JunkSet]{b:Array qhC}(g:b.size=60){D:List qk6}{a:List qi5}{f A i N:Nat}{p:Option qj5}{o:Nat}{w:qhy}(n:b[2]?.getD qhE=pt A)(hA:∀w₁,RC Fz K S w w₁->w₁.cell? A=some (.slice p N o))(j:Fz A)(h:A<w.heap.size)(hi:N<=i)(hN:i<=1000000)(d:∀b c,ql qi8 Fz K Stop S (G { (qju 139).at ⟨b,D⟩ c with mode:=.returning } a) w) :ql qi8 Fz K Stop S (G ((qir 141).at ⟨#[pt f,.int .i64 1,qhE,qhE,.int .i64 0,pt f,pt f,pt f,.int .i64 1,.int .i64 (i+1)],[]⟩ [.inRegion ZD [5],.code .ret]) (f1 b D::a)) w:=by
 obtain⟨y0,y1,y2,y3,y4,y5,y6,y7,y8,y9,e9,e8,e7,e6,e5,e4,d9,d8,d7,d6,d5,c9,c8,c3,b9,b8,b7,b6,b0,a9,a8,a7,a6,Z,Y,X,W,V,U,T,R,Q,P,O,M,L,I,H,F,C,B,z,y,x,v,u,t,s,r,q,rfl⟩:=KJ b g;simp only[f1,qe0,qbv,ZD,wLB,jP,jw,qmk,qoC,qi0,sqA,sqB,inn,qO];simp at n;subst n;simp only[pt];have g5:IntKind.i64.wrap (i:Int)=i:=qiv _ (by omega);have g6:decide ((N:Int)<=(i:Int))=true:=by simp;omega
 have k:decide (N<=i)=true:=by simp;omega
 refine ql.value hK (.int .i64 (i+1)) rfl rfl (by k_ne) (λ_=>by go_simp) (λ_=>by simp[go_sem]) ?_;walk_nrm;refine ql.region_end hK ?_;refine ql.retS hK ?_;refine ql.leave1 hK rfl rfl Tryz.func141 rfl ?_;walk_nrm;refine ql.value hK (.int .i64 i) rfl rfl (by k_ne) (λ_=>by go_simp) (λ_=>by simp[go_sem]) ?_;walk_nrm;refine ql.value hK (.int .i64 i) rfl rfl (by k_ne) (λ_=>by go_simp) (λ_=>by simp[go_sem]) ?_;walk_nrm;refine ql.region_end hK ?_;refine ql.seq hK ?_;refine ql.seq hK ?_;refine ql.region hK ?_;simp only[qiu,qi3,qi7,qii,qib,qiz,qj9];refine ql.value hK (.int .i64 i) rfl rfl (by k_ne) (λ_=>by go_simp) (λ_=>by simp[go_sem]) ?_;walk_nrm;refine ql.load hK (.slice p N o) rfl rfl (by k_ne) (λw₁ h₁=>?_) ?_
 ·have hc:=hA w₁ h₁;refine⟨by go_simp,λe l=>?_⟩;simp[go_sem,hc] at l;rw[l];exact q5c j (qia h h₁.size)
 walk_nrm;refine ql.value hK (.int .i64 N) rfl rfl (by k_ne) (λ_=>by go_simp) (λ_=>by simp[go_sem]) ?_;walk_nrm;refine ql.value hK (.bool true) rfl rfl (by k_ne) (λ_=>by go_simp) (λ_=>by simp[go_sem]) ?_;walk_nrm;refine ql.value hK (.bool true) rfl rfl (by k_ne) (λ_=>by go_simp) (λ_=>by simp[go_sem]) ?_;walk_nrm;refine ql.unwanted hK rfl rfl ?_;walk_nrm;refine ql.value hK (.bool true) rfl rfl (by k_ne) (λ_=>by go_simp) (λ_=>by simp[go_sem]) ?_;walk_nrm;refine ql.region_end hK ?_;refine ql.cond hK true rfl ?_;simp only[if_true];refine ql.retS hK ?_;exact d _ _
theorem qbl{b:Array qhC}(g:b.size=60){D:List qk6}{a:List qi5}{f:Nat}{w:qhy}(e:b[18]?.getD qhE=.bool false)(d:∀b c,ql qi8 Fz K Stop S (G { (qju 139).at ⟨b,D⟩ c with mode:=.returning } a) w) :ql qi8 Fz K Stop S (G ((qir 142).at ⟨#[pt f,qhE,.bool false,pt f,pt f,pt f,.int .u32 1,qhE],[]⟩ [.inRegion ZC [4,5],.code .ret]) (f2 b D::a)) w:=by
 obtain⟨y0,y1,y2,y3,y4,y5,y6,y7,y8,y9,d5,c9,c8,c3,b9,b8,b7,b6,b0,a9,a8,a7,a6,Z,Y,X,W,V,U,T,R,Q,P,O,N,M,L,I,H,F,C,B,A,z,y,x,v,u,t,s,r,q,p,o,n,l,k,j,i,h,rfl⟩:=KJ b g;simp only[f2,c20,wX,qbv,ZC,wLB,jP,jw,qmk,qof,qi0,sqA,sqB,inn,qO];simp at e;subst e;simp only[pt];refine ql.value hK (.bool true) rfl rfl (by k_ne) (λ_=>by go_simp) (λ_=>by simp[go_sem]) ?_;walk_nrm;refine ql.value hK (.bool true) rfl rfl (by k_ne) (λ_=>by go_simp) (λ_=>by simp[go_sem]) ?_;walk_nrm;refine ql.region_end hK ?_;refine ql.retS hK ?_;refine ql.leave1 hK rfl rfl qor rfl ?_;walk_nrm;refine ql.value hK (.bool true) rfl rfl (by k_ne) (λ_=>by go_simp) (λ_=>by simp[go_sem]) ?_;walk_nrm;refine ql.region_end hK ?_;refine ql.cond hK true rfl ?_;simp only[if_true];refine ql.retS hK ?_;exact d _ _
theorem qbm{c:Array qhC}(f:c.size=60){D:List qk6}{b:List qi5}{e:Nat}{w:qhy}(d:c[18]?.getD qhE=.bool false)(a:ql qi8 Fz K Stop S (G ((qju 139).at ⟨(c.setIfInBounds 19 (.bool false)).setIfInBounds 20 (.bool false),D⟩ (.code wX::.inBlock 1::jw)) b) w) :ql qi8 Fz K Stop S (G ((qir 142).at ⟨#[pt e,qhE,.bool false,pt e,pt e,pt e,.int .u32 0,qhE],[]⟩ [.inRegion ZC [4,5],.code .ret]) (f2 c D::b)) w:=by
 obtain⟨y0,y1,y2,y3,y4,y5,y6,y7,y8,y9,c9,c8,c3,b9,b8,b7,b6,b0,a9,a8,a7,a6,Z,Y,X,W,V,U,T,R,Q,P,O,N,M,L,I,H,F,C,B,A,z,y,x,v,u,t,s,r,q,p,o,n,l,k,j,i,h,g,rfl⟩:=KJ c f;simp only[f2,c20,wX,qbv,ZC,wLB,jP,jw,qmk,qof,qi0,sqA,sqB,inn,qO] at a ⊢;simp at d;subst d;simp only[pt];simp only[List.setIfInBounds_toArray,List.set_cons_succ,List.set_cons_zero] at a;refine ql.value hK (.bool false) rfl rfl (by k_ne) (λ_=>by go_simp) (λ_=>by simp[go_sem]) ?_;walk_nrm;refine ql.value hK (.bool false) rfl rfl (by k_ne) (λ_=>by go_simp) (λ_=>by simp[go_sem]) ?_;walk_nrm;refine ql.region_end hK ?_;refine ql.retS hK ?_;refine ql.leave1 hK rfl rfl qor rfl ?_;walk_nrm;refine ql.value hK (.bool false) rfl rfl (by k_ne) (λ_=>by go_simp) (λ_=>by simp[go_sem]) ?_;walk_nrm;refine ql.region_end hK ?_;refine ql.cond hK false rfl ?_;simp only[if_false,qiC];refine ql.skip hK ?_;exact a
end
end
section
open Go Go.RowKit Go.Conc Go.ConcN Go.ConcN.Gen Go.Conc.Lib Go.ConcR.Gen Go.Co Go.Sim
noncomputable def q3w:qkk:=sqB (sqB (sqB (sqB (sqB jP))))
noncomputable def q6u:Array qjx:=qO (match q3w with | .cond _ r _=>r | c=>c)
noncomputable def f10(a:Array qhC)(D:List qk6):qi5:=(qju 139).at ⟨a,D⟩ (.inRegion q6u [0]::.inBlock 1::jw)
structure I14(Fd:Nat)(l:Array Bool)(a:Act):Prop where
 c1:l[1]?.getD false=true->l[0]?.getD false=true
 c2:l[2]?.getD false=true->l[1]?.getD false=true
 c4:l[4]?.getD false=true->l[3]?.getD false=true
 c5:l[5]?.getD false=false
 ac:∃T4 T5 T6 T7 T8,a=⟨#[.pointer (some Fd),.bool true,qhE,qhE,T4,T5,T6,T7,T8,qhE],[]⟩/\(l[0]?.getD false=true->T4=.pointer (some Fd))/\(l[1]?.getD false=true->T5=.pointer (some Fd))/\(l[2]?.getD false=true->T6=.pointer (some Fd))/\(l[3]?.getD false=true->T7=.bool true)/\(l[4]?.getD false=true->T8=.int .u32 1)
section
variable{Fz:Bs}{K:qhy->qhy->Prop}{Stop:Bs->qhD->qhy->Prop}{S:Bs}(hK:∀a b c,K a b->K b c->K a c)
include hK
theorem qdy{c:Array qhC}(e:c.size=60){D:List qk6}{a:List qi5}{w:qhy}(d:c[58]?.getD qhE=.bool false)(b:ql qi8 Fz K Stop S (G ((qju 139).at ⟨c,D⟩ (.code wLB::jw)) a) w) :ql qi8 Fz K Stop S (G ((qju 139).at ⟨c,D⟩ (.code q3w::.inBlock 1::jw)) a) w:=by
 obtain⟨y0,y1,y2,y3,y4,y5,y6,y7,y8,y9,c8,c3,b9,b8,b7,b6,b0,a9,a8,a7,a6,Z,Y,X,W,V,U,T,R,Q,P,O,N,M,L,I,H,F,C,B,A,z,y,x,v,u,t,s,r,q,p,o,n,l,k,j,i,h,g,f,rfl⟩:=KJ c e;simp only[q3w,wLB,jP,jw,qmk,qi0,sqA,sqB,inn] at b ⊢;simp at d;subst d;refine ql.cond hK false rfl ?_;simp only[if_false,qiC];refine ql.skip hK ?_;refine ql.inBlock hK ?_;refine ql.inLoop hK ?_;exact b
theorem qdA{d:Array qhC}{D:List qk6}{a:List qi5}{c:Nat}{w:qhy}(b:ql qi8 Fz K Stop S (G ((qju 139).at ⟨d.setIfInBounds 59 (.tuple #[]),D⟩ (.code wLB::jw)) a) w) :ql qi8 Fz K Stop S (G ((qir 143).at ⟨#[pt c,.bool true,qhE,qhE,pt c,pt c,pt c,.bool true,.int .u32 1,.tuple #[]],[]⟩ [.inRegion YK []]) (f10 d D::a)) w:=by
 simp only[f10,q6u,YK,q3w,wLB,jP,jw,qmk,qpg,qi0,sqA,sqB,inn,qO] at b ⊢;refine ql.region_end hK ?_;refine ql.endS hK ?_;refine ql.leave0 hK rfl rfl Tryz.func143 rfl ?_;refine ql.region_end hK ?_;refine ql.inBlock hK ?_;refine ql.inLoop hK ?_;exact b
theorem qdx(M:∀w n,K w { w with drawn:=n }){tm:Array qhC}(hsz:tm.size=60){D:List qk6}{real:List qi5}{Fd:Nat}{w:qhy}(h3:tm[3]?.getD qhE=pt Fd)(h58:tm[58]?.getD qhE=.bool true)(hstop:∀w₁,RC Fz K S w w₁->Stop S (G ((qir 143).at ⟨#[pt Fd,.bool true,qhE,qhE,pt Fd,pt Fd,pt Fd,.bool true,.int .u32 1,qhE],[]⟩ [.inRegion YK [5]]) (f10 tm D::real)) w₁) :ql qi8 Fz K Stop S (G ((qju 139).at ⟨tm,D⟩ (.code q3w::.inBlock 1::jw)) real) w:=by
 obtain⟨y0,y1,y2,y3,y4,y5,y6,y7,y8,y9,m6,m5,m4,m3,l9,l8,l7,l6,l5,l4,k9,k8,k7,k6,k5,h9,h8,g9,g8,g7,g6,g5,e9,e8,e7,e6,e5,e4,d9,d8,d7,d6,d5,c9,c8,c3,b9,b8,b7,b6,b0,a9,a8,a7,a6,Z,Y,X,W,V,rfl⟩:=KJ tm hsz;simp only[f10,q6u,YK,q3w,wLB,jP,jw,qmk,qpg,qi0,sqA,sqB,inn,qO] at hstop ⊢;simp at h3 h58;subst h3 h58;simp only[pt] at hstop ⊢;refine ql.cond hK true rfl ?_;simp only[if_true];refine ql.region hK ?_;simp only[qiu,qi3,qi7,qii,qib,qiz,qj9];refine ql.enter hK rfl rfl (by k_ne) rfl Tryz.func143 (by kernel_rfl) rfl ?_
 walk_nrmf qpg
 refine ql.region_inv hK (by kernel_rfl) M (I14 Fd) ?_ ?_ ?_
 ·exact⟨by simp,by simp,by simp,by simp,qhE,qhE,qhE,qhE,qhE,rfl,by simp,by simp,by simp,by simp,by simp⟩
 ·rintro l a i g ⟨A,z,y,p,I,H,C,F,B,rfl,u,t,s,r,q⟩ v x k d;have o:=(zy v).1;have n6:l.size=6:=g;have c:∀i j,i<6->(l.setIfInBounds i true)[j]?.getD false=if i=j then true else l[j]?.getD false:=λi j h=>Z1 l i j (by omega);have n4:=J8 v;have o:i=0\/i=1\/i=2\/i=3\/i=4\/i=5:=by
   have:i<6:=o;omega
  rcases o with rfl | rfl | rfl | rfl | rfl | rfl
  ·refine ql.value hK (.pointer (some Fd)) rfl rfl (by k_ne) (λ_=>by go_simp) (λ_=>by simp[go_sem]) ?_;walk_nrm;exact d _ ⟨by simp[c],by simpa[c] using λh=>(z h),by simpa[c] using y,by simpa[c] using p,_,H,C,F,B,rfl,λ_=>rfl,by simpa[c] using t,by simpa[c] using s,by simpa[c] using r,by simpa[c] using q⟩
  ·have b:=zx v rfl;simp[qj8] at b;obtain rfl:=u (by simp[b]);refine ql.value hK (.pointer (some Fd)) rfl rfl (by k_ne) (λ_=>by go_simp) (λ_=>by simp[go_sem]) ?_;walk_nrm;exact d _ ⟨by simp[c,b],by simp[c],by simpa[c] using y,by simpa[c] using p,_,_,C,F,B,rfl,λ_=>rfl,λ_=>rfl,by simpa[c] using s,by simpa[c] using r,by simpa[c] using q⟩
  ·have b:=zx v rfl;simp[qj8] at b;obtain rfl:=t (by simp[b]);refine ql.value hK (.pointer (some Fd)) rfl rfl (by k_ne) (λ_=>by go_simp) (λ_=>by simp[go_sem]) ?_;walk_nrm;exact d _ ⟨by simpa[c] using A,by simp[c,b],by simpa[c] using y,by simpa[c] using p,I,_,_,F,B,rfl,by simpa[c] using u,λ_=>rfl,λ_=>rfl,by simpa[c] using r,by simpa[c] using q⟩
  ·refine ql.value hK (.bool true) rfl rfl (by k_ne) (λ_=>by go_simp) (λ_=>by simp[go_sem]) ?_;walk_nrm;exact d _ ⟨by simpa[c] using A,by simpa[c] using z,by simp[c],by simpa[c] using p,I,H,C,_,B,rfl,by simpa[c] using u,by simpa[c] using t,by simpa[c] using s,λ_=>rfl,by simpa[c] using q⟩
  ·have b:=zx v rfl;simp[qj8] at b;obtain rfl:=r (by simp[b]);refine ql.enter hK rfl rfl (by k_ne) rfl Tryz.func182 (by kernel_rfl) rfl ?_
   walk_nrmf Tryz.f182
   refine ql.seq hK ?_;refine ql.region hK ?_;simp only[qiu,qi3,qi7,qii,qib,qiz,qj9];refine ql.value hK (.int .u32 0) rfl rfl (by k_ne) (λ_=>by go_simp) (λ_=>by simp[go_sem]) ?_;walk_nrm;refine ql.region_end hK ?_;refine ql.seq hK ?_;refine ql.seq hK ?_;refine ql.region hK ?_;simp only[qiu,qi3,qi7,qii,qib,qiz,qj9];refine ql.value hK (.bool true) rfl rfl (by k_ne) (λ_=>by go_simp) (λ_=>by simp[go_sem]) ?_;walk_nrm;refine ql.region_end hK ?_;refine ql.cond hK true rfl ?_;simp only[if_true];refine ql.seq hK ?_;refine ql.region hK ?_;simp only[qiu,qi3,qi7,qii,qib,qiz,qj9];refine ql.value hK (.int .u32 1) rfl rfl (by k_ne) (λ_=>by go_simp) (λ_=>by simp[go_sem]) ?_;walk_nrm;refine ql.region_end hK ?_;refine ql.retS hK ?_;refine ql.leave1 hK rfl rfl Tryz.func182 rfl ?_;walk_nrm;exact d _ ⟨by simpa[c] using A,by simpa[c] using z,by simp[c,b],by simpa[c] using p,I,H,C,_,_,rfl,by simpa[c] using u,by simpa[c] using t,by simpa[c] using s,λ_=>rfl,λ_=>rfl⟩
  ·have b:=zx v rfl;simp[qj8] at b;have O:l[2]?.getD false=true:=by simp[b]
   have N:l[4]?.getD false=true:=by simp[b]
   have P:=z O;have U:=A P;have T:=y N;obtain rfl:=u U;obtain rfl:=t P;obtain rfl:=s O;obtain rfl:=r T;obtain rfl:=q N;have f:x=[]:=k (by
    simp only[qil,List.filter_eq_nil_iff,qkg,qio,qkD,not_and];intro j hj R;exfalso;have n7:j<6:=hj;have L:j<(l.setIfInBounds 5 true).size:=by simp;omega
    have e:(l.setIfInBounds 5 true)[j]?.getD false=true:=by
     rw[c 5 j (by omega)];obtain rfl | rfl | rfl | rfl | rfl | rfl:j=0\/j=1\/j=2\/j=3\/j=4\/j=5:=by omega
     all_goals simp[U,P,O,T,N]
    simp only[qjn,qip L,qi0] at R e;rw[R] at e;cases e)
   subst f;exact ql.stop hstop
 ·rintro l a g ⟨A,z,y,p,I,H,C,F,B,rfl,u,t,s,r,q⟩ f;have q0:=zY f g (i:=0) rfl (by simp[qj8]);have q1:=zY f g (i:=1) rfl (by simp[qj8,q0]);have q2:=zY f g (i:=2) rfl (by simp[qj8,q1]);have q3:=zY f g (i:=3) rfl (by simp[qj8]);have q4:=zY f g (i:=4) rfl (by simp[qj8,q3]);have Q:=zY f g (i:=5) rfl (by simp[qj8,q2,q4]);rw[p] at Q;cases Q
end
end
section
open Go Go.RowKit Go.Conc Go.ConcN Go.ConcN.Gen Go.Conc.Lib Go.ConcR.Gen Go.Co Go.Sim
def jC(a b A c Y V B:Nat):Array qhC:=#[pt a,pt b,pt A,pt c,pt Y,pt V,pt B]
def q17(a b A c Y V B:Nat):qk6:={ target:=.fn (.func 139) (jC a b A c Y V B),args:=#[] }
def tm0(a b A c Y V B:Nat):Array qhC:=#[pt a,pt b,pt A,pt c,pt Y,pt V,pt B]++qj4 53 qhE
section
variable{Fz:Bs}{K:qhy->qhy->Prop}{Stop:Bs->qhD->qhy->Prop}{S:Bs}(hK:∀a b c,K a b->K b c->K a c)
include hK
theorem q6n{b d A f Y V B:Nat}{w:qhy}(a:ql qi8 Fz K Stop S (G ((qju 139).at ⟨tm0 b d A f Y V B,dn b⟩ (.code wLB::jw)) [bot]) w) :ql qi8 Fz K Stop S (born qi8 (q17 b d A f Y V B)) w:=by
 have c:∀w,qjc qi8 false (born qi8 (q17 b d A f Y V B)) w=.go (G ((qju 139).at ⟨tm0 b d A f Y V B,[]⟩ [.code (Tryz.f139.body.getD .skip)]) [bot]) w #[]:=by
  intro w;simp[born,q17,jC,qjc,qmr,qk8,invoke,callFunc,qq8,qmk,seen,qjg,G,qj1,Frame.at,qju,bot,tm0];rfl
 refine ql.pure hK rfl c ?_;simp only[wLB,jw,qmk,qi0,sqA,sqB,inn] at a ⊢;refine ql.seq hK ?_;refine ql.region hK ?_;simp only[qiu,qi3,qi7,qii,qib,qiz,qj9];refine ql.pure hK rfl (λw=>stepG_defer rfl rfl (by k_ne) rfl) ?_;refine ql.region_end hK ?_;refine ql.block hK ?_;refine ql.loop hK ?_;have e:Act.put ⟨tm0 b d A f Y V B,[qse 140 (Array.map (Act.eval ⟨tm0 b d A f Y V B,[]⟩) #[Operand.tmp 0])]⟩ none qhE=⟨tm0 b d A f Y V B,dn b⟩:=by
  simp[Act.put,dn,Act.eval,tm0]
 rw[<- e] at a;exact a
end
end
section
open Go Go.RowKit Go.Conc Go.ConcN Go.ConcN.Gen Go.Conc.Lib Go.ConcR.Gen Go.Co Go.Sim
def q91(T:Array qhC)(a:List qm1):qpl qi8 2 0 (G { (qju 139).at ⟨T,[]⟩ a with mode:=.returning } [bot]):=by
 refine QuitsD.ctl (g':=G bot []) rfl (λw=>?_) ?_
 ·simp[G,qjc,qmr,qkc,qkh,Frame.at,qju,bot,qq8,qmk,seen,qjg,qqp];try rfl
 refine QuitsD.ctl (g':={ G bot [] with status:=.finished }) rfl (λw=>?_) ⟨rfl,rfl⟩;simp[G,qjc,qmr,bot,qqp,qpv];rfl
section
variable{Fz:Bs}{K:qhy->qhy->Prop}{Stop:Bs->qhD->qhy->Prop}{S:Bs}(hK:∀a b c,K a b->K b c->K a c)
include hK
theorem qdz{Wg:Nat}{w:qhy}(l:qkF 166 Wg w)(j:∀w w₁,K w w₁->LR 166 Wg w w₁)(i:∀g w,qgj qi8 166 Wg g w->Stop S g w)(e:Array qhC)(d:List qm1) :ql qi8 Fz K Stop S (G { (qju 139).at ⟨e,dn Wg⟩ d with mode:=.returning } [bot]) w:=by
 refine ql.pure hK rfl (λw=>stepG_unwind_enter (f:=140) (ds:=[]) rfl K5.f_done (nm_done link) rfl) ?_;have:=Go.Co.done (L:=link) (Wg:=Wg) (cs:=[bot]) (qt:=2) K5 (c:={ (qju 139).at ⟨e,[]⟩ d with mode:=.returning }) rfl (q91 e d) w l;exact ql.of_goes2 (λa b h=>j a b h.k) (λw=>LR.refl w) i this
end
end
section
open Go Go.Sim
def lst:List Nat:=[3,4,5,6,7,8,9,10,11,12,13,14,15,16,17,18,19,20,21,22,23,24,25,26,27,28,29,30,31,32,33,34,35,36,37,38,39,40,41,42,43,44,45,46,47,48,49,50,51,52,53,54,55,56,57,58,59,60,61,62,63,64,65,66,67,68,69,70,71,72,73,74,75,76,77,78,79,80,81,82,83,84,85,86,87,88,89,90,91,92,93,94,95,96,97,98,99,100,101,102,103,104,105,106,107,108,109,110,111,112,113,114,115,116,117,118,119,120,121,122,123,124,125,126,127,128,129,130,131,132,133,134,135,136,137,145,146,147,148,149,150,151,152,153,154,155,156,157,158,159,160,161,162,163,164,165,182,188,189,190,191,192,193,194,195,196,197,198,199,200,206,207,208,209,210,211,212,213,214,215,216,217,218,219,220,221,222,223,224,241,242]
noncomputable def ls:Lets:=⟨λf=>lst.contains f,λn=>n == "gladstone/pile.holds",λb a=>biB Ya b a⟩
def qe4{f:Nat}(h:ls.f f=true):f∈lst:=by
 have:lst.contains f=true:=h;simpa using this
def qga:(lst.all λf=>qee Ya qi8 ls f)=true:=by kernel_rfl
def qg9:(lst.all λf=>qee Ya Ya ls f)=true:=by kernel_rfl
def q5p:(lst.all λf=>qcD Ya ls f)=true:=by kernel_rfl
def qf0(Q:qi4)(s:Lets)(n:String)(t:Nat):Bool:=match Q.info? t with
 | none=>true
 | some i=>match i.methods.find? (·.name == n) with
  | none=>true
  | some m=>m.path.isEmpty && (match m.func with | some (f,b)=>s.f f && (b || (match Q.underlying t with | some (.pointer _)=>false | _=>true)) | none=>false)
def q4k{f:qid->Option qm8}{d:TypeDesc}{i:qm8}(h:Made.reckon f d=some i):i.methods=#[]:=by
 unfold Made.reckon at h;split at h
 ·obtain⟨j,-,h⟩:=qjb.1 h;split at h
  ·cases h
  ·split at h
   ·cases h
   ·obtain⟨x,-,h⟩:=qjb.1 h;cases h;rfl
  ·obtain⟨x,-,h⟩:=qjb.1 h;cases h;rfl
 ·obtain⟨j,-,h⟩:=qjb.1 h;obtain⟨x,-,h⟩:=qjb.1 h;cases h;rfl
 ·obtain⟨j,-,h⟩:=qjb.1 h;obtain⟨x,-,h⟩:=qjb.1 h;obtain⟨x,-,h⟩:=qjb.1 h;obtain⟨x,-,h⟩:=qjb.1 h;cases h;rfl
 ·obtain⟨j,-,h⟩:=qjb.1 h;obtain⟨x,-,h⟩:=qjb.1 h;cases h;rfl
 ·obtain⟨j,-,h⟩:=qjb.1 h;cases h;rfl
 ·obtain⟨j,-,h⟩:=qjb.1 h;obtain⟨x,-,h⟩:=qjb.1 h;cases h;rfl
 ·unfold Made.reckonStruct at h;obtain⟨r,-,h⟩:=qjb.1 h;split at h<;>(dsimp only at h;split at h<;>(cases h;rfl))
 ·cases h
def q9n{P:qi4}{t:Nat}{i:qm8}(h:P.info? t=some i):t<P.types.size\/i.methods=#[]:=by
 by_cases b:t<P.types.size
 ·exact .inl b
 ·have a:Tables.info? P.toTables t=some i:=h;unfold Tables.info? at a;rw[if_neg b] at a;unfold Made.depth Made.infoAt at a;rw[if_neg b] at a;obtain⟨d,-,c⟩:=qjb.1 a;exact .inr (q4k c)
def qhc:((qiz Ya.types.size).all (qf0 Ya ls "gladstone/pile.holds"))=true:=by kernel_rfl
def q7D:∀n,ls.m n=true->∀t i m,Ya.info? t=some i->i.methods.find? (·.name == n)=some m->m.path=#[]/\∃f b,m.func=some (f,b)/\ls.f f=true/\∀e,Ya.underlying t=some (.pointer e)->b=true:=by
 intro n k t i m d c;obtain rfl:n = "gladstone/pile.holds" := by simpa[ls] using k
 have j:t<Ya.types.size:=(q9n d).resolve_right λe=>by rw[e] at c;cases c
 have h:=qje.1 qhc t (qkg.2 j);unfold qf0 at h;rw[d] at h;dsimp only at h;rw[c] at h;dsimp only at h;have⟨p,a⟩:=qqq.1 h;refine⟨by simpa using p,?_⟩;cases hm:m.func with
 | none=>rw[hm] at a;cases a
 | some q=>
  obtain⟨f,b⟩:=q;rw[hm] at a;dsimp only at a;have⟨o,g⟩:=qqq.1 a;refine⟨f,b,rfl,o,λe l=>?_⟩;rw[l] at g;simpa using g
def ne85:Ya.funcs[85]?≠Tryz.prog.funcs[85]?:=by
 intro h;have a:(Ya.funcs[85]?).map (λf=>f.body.isNone || (match f.body with | some (.exit _)=>true | _=>false))=some true:=by kernel_rfl
 rw[h] at a;have b:(Tryz.prog.funcs[85]?).map (λf=>f.body.isNone || (match f.body with | some (.exit _)=>true | _=>false))=some false:=by kernel_rfl
 rw[b] at a;cases a
def zh(f:Nat)(h:f≠85):Ya.funcs[f]?=Tryz.prog.funcs[f]?:=by
 unfold Ya;dsimp only;rw[qj2,if_neg (λe=>h e.symm)]
def qf6(jk:Nat->Prop):@Duo (JS Ya qi8 ls jk) Ya qi8:=by
 refine qct rfl (by kernel_rfl) (by kernel_rfl) (λb a h=>h) (λf h=>?_) (λf h c=>?_) q7D
 ·exact qje.1 qga f (qe4 h)
 ·exact qje.1 q5p f (qe4 h)
def qf5(jk:Nat->Prop):@Duo (JS Ya Ya ls jk) Ya Ya:=by
 refine qct rfl (by kernel_rfl) (by kernel_rfl) (λb a h=>h) (λf h=>?_) (λf h c=>?_) q7D
 ·exact qje.1 qg9 f (qe4 h)
 ·exact qje.1 q5p f (qe4 h)
def qgr(Q P:qi4)(s:Lets)(jk:Nat->Prop):Up (JS Q P s jk) (JS Q Q s jk) :=
 ⟨λ_ h=>h,λ_ h=>h,λ_ _ h=>h,λ_ h=>h,λ_ ⟨⟨g,a,_⟩,b⟩=>⟨⟨g,a,a⟩,b⟩,rfl⟩
def up(jk:Nat->Prop):Up (JS Ya qi8 ls jk) (JS Ya Ya ls jk):=qgr _ _ _ _
def qaF:∀c,Ya.funcs[c]?≠Tryz.prog.funcs[c]?->∀a k d u,∃o w i,qjc Ya true { frame:=qj1 Ya c a k,callers:=d,status:=.running,dying:=none } u true=.ended o w i:=by
 intro c h a k d u;have e:c=85:=qiG λf=>h (zh c f);subst e;have g:(Ya.funcs[85]?).bind (·.body)=some (.exit 0):=by kernel_rfl
 unfold qj1;dsimp only;rw[g];exact⟨_,_,_,rfl⟩
def hrf:Tryz.prog.follows .rangeFuncRecover=true:=by kernel_rfl
end
end Go.Proofs.YtidgnkmjgioapaaGreat
section
namespace Go.Co
open Go Go.Sim
def frz:Obj->Obj
 | .cells c e f=>.cells c e (0,max c.size f.2)
 | _=>.cells #[] 0
noncomputable def Yl(Q:qi4)(W:qhy)(nds jks:List Nat)(b:Nat):Obj :=
 if b∈jks then qfH Q else if b∈nds then(match W.heap[b]? with | some o=>frz o | none=>.cells #[] 0) else .cells #[] 0
noncomputable def lw(Q:qi4)(W:qhy)(nds jks:List Nat):qhy:={ W with heap:=(qlH W.heap.size).map (Yl Q W nds jks) }
def lr(n:Nat)(nds jks:List Nat):Ren:=(qiz n).map λb=>if b∈nds\/b∈jks then some b else none
section
variable{Q:qi4}{W:qhy}{nds jks:List Nat}
def q7E:(lw Q W nds jks).heap.size=W.heap.size:=by simp[lw]
def q34{b:Nat}(h:b<W.heap.size):(lw Q W nds jks).heap[b]?=some (Yl Q W nds jks b):=by simp[lw,h]
def Yw{n i j:Nat}:BR (lr n nds jks) i j↔i<n/\i=j/\(i∈nds\/i∈jks):=by
 unfold BR lr;rw[qjA];by_cases h:i<n
 ·rw[qll h];simp only[qjo,qj3,h,true_and];split
  ·rename_i hm;simp[hm]
  ·rename_i hm;simp[hm]
 ·rw[qjd (by simp;omega)];simp[h]
def q7G{b:Nat}{a:Array qhC}{e:qid}{f:Nat × Nat}(d:b∈nds)(c:b∉jks)(h:W.heap[b]?=some (.cells a e f)):(lw Q W nds jks).heap[b]?=some (.cells a e (0,max a.size f.2)):=by
 rw[q34 (qhB.1 h).1];unfold Yl;rw[if_neg c,if_pos d,h];rfl
def qh0[J:JunkSet]{w:qhy}(l:∀i,JunkSet.jk i↔i∈jks)(H:Q.globals.size=0)(I:∀b∈nds,b∉jks)(G:∀b∈nds,b<W.heap.size)(B:∀b∈jks,b<W.heap.size)(p:∀b∈nds,∃n e f,W.heap[b]?=some (.cells n e f)/\∀(i:Nat) (v:qhC),n[i]?=some v->VR (lr W.heap.size nds jks) v v)(z:∀b∈nds,w.heap[b]?=W.heap[b]?)(F:W.heap.size<=w.heap.size)(a:w.os=W.os)(q:∀b∈jks,∃c e f,w.heap[b]?=some (.cells c e f)) :WR Q W.heap.size (lr W.heap.size nds jks) (lw Q W nds jks) w where
 len:=by simp[lr,lw]
 nodup:=λi D j h C=>by rw[Yw] at h C;omega
 lt:=λi j h=>by rw[Yw] at h;omega
 obj:=λi j o h d=>by
  rw[Yw] at h;obtain⟨u,rfl,t⟩:=h;rw[q34 u] at d;cases d;by_cases hm:i∈jks
  ·refine .inl ⟨(l i).2 hm,by unfold Yl;rw[if_pos hm],by omega,q i hm⟩
  ·have g:i∈nds:=t.resolve_right hm;have⟨n,e,f,s,A⟩:=p i g;refine .inr ⟨λk=>hm ((l i).1 k),.cells n e f,by rw[z i g,s],?_⟩;have:Yl Q W nds jks i=.cells n e (0,max n.size f.2):=by
    unfold Yl;rw[if_neg hm,if_pos g,s];rfl
   rw[this];exact .cells e ⟨rfl,λk x y d r=>by rw[d] at r;cases r;exact A k x d⟩ λo u t=>by omega
 low:=λi hi=>by
  rw[q34 hi];unfold Yl;split
  ·exact⟨_,_,_,rfl,λo a=>by simp at a⟩
  ·split
   ·split
    ·rename_i o a
     cases o with
     | cells c e f=>exact⟨_,_,_,rfl,λo a=>by simp;omega⟩
     | _=>exact⟨_,_,_,rfl,λo a=>by simp at a⟩
    ·exact⟨_,_,_,rfl,λo a=>by simp at a⟩
   ·exact⟨_,_,_,rfl,λo a=>by simp at a⟩
 env:=by show W.os.env=w.os.env;rw[a]
 below:=λi hi=>B i ((l i).1 hi)
 gar:=λi o d=>by
  right;have hi:i<W.heap.size:=by
   have:=(qhB.1 d).1
   rwa [q7E] at this
  rw[q34 hi] at d;cases d;unfold Yl;split
  ·rfl
  ·split
   ·split
    ·rename_i o _;cases o<;>rfl
    ·rfl
   ·rfl
end
end Go.Co
namespace Go.Proofs.YtidgnkmjgioapaaGreat
open Go Go.Co Go.Sim
section
variable{Q:qi4}{W:qhy}{nds jks:List Nat}{lo hi:Nat}
def xM{b o:Nat}{a:Array qhC}{e:qid}{f:Nat × Nat}{v:qhC}(g:b∈nds)(d:b∉jks)(h:W.heap[b]?=some (.cells a e f))(c:a[o]?=some v):(lw Q W nds jks).cell? ⟨b,o,none⟩=some v :=
 q8 (q7G g d h) c
def q7H{v:qhC}{l:List Int}(h:qd lo hi W v l)(i:∀b∈nds,b∉jks)(j:∀B o n c,v=.slice (some ⟨B,o,none⟩) n c->l≠[]->B∈nds):qd lo hi (lw Q W nds jks) v l:=by
 obtain⟨base,d,rfl,g,f⟩:=h;refine⟨base,d,rfl,g,λa=>?_⟩;obtain⟨B,o,s,t,rfl,r,q,p,k⟩:=f a;have e:=j B o _ _ rfl a;exact⟨B,o,s,_,rfl,r,q,q7G e (i B e) p,k⟩
def q7F{v:qhC}{d:List Par}(h:qn lo hi W v d)(j:∀b∈nds,b∉jks)(k:∀B o n c,v=.slice (some ⟨B,o,none⟩) n c->d≠[]->B∈nds):qn lo hi (lw Q W nds jks) v d:=by
 obtain⟨base,e,rfl,i,g⟩:=h;refine⟨base,e,rfl,i,λa=>?_⟩;obtain⟨B,o,s,t,rfl,r,q,p,l⟩:=g a;have f:=k B o _ _ rfl a;exact⟨B,o,s,_,rfl,r,q,q7G f (j B f) p,l⟩
def qbF{v:qhC}{n:Nat}{c:Nat->Nat->Int}(h:vC lo hi W v n c)(k:∀b∈nds,b∉jks)(l:∀B o g c,v=.slice (some ⟨B,o,none⟩) g c->0<n->B∈nds):vC lo hi (lw Q W nds jks) v n c:=by
 obtain⟨base,d,rfl,j,i⟩:=h;refine⟨base,d,rfl,j,λa=>?_⟩;obtain⟨B,o,t,f,u,rfl,s,r,q,p⟩:=i a;have e:=l B o _ _ rfl a;exact⟨B,o,t,f,_,rfl,s,r,q7G e (k B e) q,p⟩
end
end Go.Proofs.YtidgnkmjgioapaaGreat
end
section
namespace Go.Proofs.YtidgnkmjgioapaaGreat
open Go Go.RowKit Go.Conc Go.ConcN Go.ConcN.Gen Go.Conc.Lib Go.ConcR.Gen Go.Co Go.Sim
inductive Lam | st | ld (i:Nat) | wk (i:Nat) | fn
structure Ph4 where
 W1:qhy
 clA:Nat->Cl
 lo:Nat
 Wg:Nat
 Nx:Nat
 A:Nat
 Fd:Nat
 Y:Nat
 V:Nat
 B:Nat
 ps:List Par
 lim:Int
 l:List Int
 wl:List Int
 N:Nat
 c:Nat->Nat->Int
 yb:Option qj5
 yc:Nat
 ab:Option qj5
 ac:Nat
 pv:qhC
 vv:qhC
 nds:List Nat
 Post:qhC->qhy->Prop
 Fin:qhD->qhy->Prop
 AnchW:qhD->qhy->Prop
namespace Ph4
variable(x:Ph4)
def jks:List Nat:=[x.Wg,x.Nx,x.Fd]
def jk(b:Nat):Prop:=b∈x.jks
@[reducible] noncomputable def js:JunkSet:=JS Ya qi8 ls x.jk
def Fz(b:Nat):Prop:=b<x.W1.heap.size/\x.clA b=.ro x.lo
def Sy(b:Nat):Prop:=b=x.Nx\/b=x.Fd
def DataAt(W:Nat × Bool)(w:qhy):Prop:=w.heap[x.Nx]?=some (.cells #[W.1] 158 (0,0))/\w.heap[x.Fd]?=some (.cells #[.int .u32 (if W.2 then 1 else 0)] 161 (0,0))
def Liv(w:qhy):Prop:=qkF 166 x.Wg w/\∃W,x.DataAt W w
def K(w w₁:qhy):Prop:=(qkF 166 x.Wg w->qkF 166 x.Wg w₁)/\((∃W,x.DataAt W w)->∃W,x.DataAt W w₁)
def gn:Nat->Int:=pre Par.mn x.ps x.ps.length
def gx:Nat->Int:=pre Par.mx x.ps x.ps.length
def bad(i:Nat):Bool:=qw x.ps (ovr (x.c i) x.gn x.wl x.wl.length) x.l && !qw x.ps (ovr (x.c i) x.gx x.wl x.wl.length) x.l
noncomputable def w0:qhy:=lw Ya x.W1 x.nds x.jks
def r0:Ren:=Go.Co.lr x.W1.heap.size x.nds x.jks
def tmp0:Array qhC:=tm0 x.Wg x.Nx x.A x.Fd x.Y x.V x.B
structure Ok:Prop where
 hlo:1<=x.lo
 hY:x.W1.heap[x.Y]?=some (.cells #[.slice x.yb x.ps.length x.yc,x.lim] 91 (0,0))
 hV:x.W1.heap[x.V]?=some (.cells #[x.vv] 29 (0,0))
 hB:x.W1.heap[x.B]?=some (.cells #[x.pv] 29 (0,0))
 hA:x.W1.heap[x.A]?=some (.cells #[.slice x.ab x.N x.ac] 152 (0,0))
 pars:qn 0 x.W1.heap.size x.W1 (.slice x.yb x.ps.length x.yc) x.ps
 ints:qd 0 x.W1.heap.size x.W1 x.vv x.wl
 intp:qd 0 x.W1.heap.size x.W1 x.pv x.l
 cas:vC 0 x.W1.heap.size x.W1 (.slice x.ab x.N x.ac) x.N x.c
 n5:x.ps.length<=5
 bmn:∀i,0<=x.gn i/\x.gn i<=1000
 bmx:∀i,0<=x.gx i/\x.gx i<=1000
 bc:∀i d,0<=x.c i d/\x.c i d<=1000
 hl:∀y∈x.l,0<=y/\y<x.ps.length
 ll:x.l.length<=1000
 hwl:∀y∈x.wl,0<=y/\y<5
 hN:x.N<=900000
 jlt:∀b∈x.jks,b<x.W1.heap.size
 ne1:x.Nx≠x.Fd
 ne2:x.Wg≠x.Nx
 ne3:x.Wg≠x.Fd
 sync:∀b∈x.jks,x.clA b=.sync
 nro:∀b∈x.nds,x.clA b=.ro x.lo
 nok:∀b∈x.nds,∃cs e f,x.W1.heap[b]?=some (.cells cs e f)/\∀(i:Nat) (v:qhC),cs[i]?=some v->@VR x.js x.r0 v v
 n0:0∈x.nds
 nY:x.Y∈x.nds
 nV:x.V∈x.nds
 nB:x.B∈x.nds
 nA:x.A∈x.nds
 nyb:∀B o n c,qiH x.yb x.ps.length x.yc=.slice (some ⟨B,o,none⟩) n c->x.ps≠[]->B∈x.nds
 nvv:∀B o n c,x.vv=.slice (some ⟨B,o,none⟩) n c->x.wl≠[]->B∈x.nds
 npv:∀B o n c,x.pv=.slice (some ⟨B,o,none⟩) n c->x.l≠[]->B∈x.nds
 nab:∀B o n c,qiH x.ab x.N x.ac=.slice (some ⟨B,o,none⟩) n c->0<x.N->B∈x.nds
 cla0:∀b,x.W1.heap.size<=b->x.clA b=.mine 0
structure Cm(w:qhy):Prop where
 liv:x.Liv w
 fz:∀b,x.Fz b->w.heap[b]?=x.W1.heap[b]?
 size:x.W1.heap.size<=w.heap.size
 os:w.os=x.W1.os
structure Wk(S:Bs)(Z:Ren)(a:Act)(tm:Array qhC)(wq w:qhy):Prop where
 rel:@qgg x.js Ya qi8 x.W1.heap.size x.Fz S x.jk (λb=>b<x.W1.heap.size) Z a tm wq w
 le:Le x.r0 Z
 gr:x.w0.grownBy (wq.tp x.w0.tape) none
 sz:a.tmps.size=60
 cap:∀k,k<7->a.tmps[k]?=x.tmp0[k]?
def WA(l:Lam)(S:Bs)(g:qhD)(w:qhy):Prop:=x.Cm w/\match l with
 | .st=>(g=born qi8 (q17 x.Wg x.Nx x.A x.Fd x.Y x.V x.B)/\∀b,¬ S b) \/
   ∃Z a c d,x.Wk S Z a c d w/\g=G ((qir 143).at ⟨#[pt x.Fd,.bool true,qhE,qhE,pt x.Fd,pt x.Fd,pt x.Fd,.bool true,.int .u32 1,.tuple #[]],[]⟩ [.inRegion YK []]) [f10 c (dn x.Wg),bot]
 | .ld i=>i<x.N/\∃Z a c d,x.Wk S Z a c d w/\g=G ((qir 141).at ⟨#[pt x.Nx,.int .i64 1,qhE,qhE,.int .i64 0,pt x.Nx,pt x.Nx,pt x.Nx,.int .i64 1,.int .i64 (i+1)],[]⟩ [.inRegion ZD [5],.code .ret]) [f1 c (dn x.Wg),bot]
 | .wk i=>i<x.N/\∃Z a c d,x.Wk S Z a c d w/\a.tmps[7]?=some (.int .i64 i)/\a.tmps[18]?=some (.bool false)/\g=G ((qir 142).at ⟨#[pt x.Fd,qhE,.bool false,pt x.Fd,pt x.Fd,pt x.Fd,.int .u32 0,qhE],[]⟩ [.inRegion ZC [4,5],.code .ret]) [f2 c (dn x.Wg),bot]
 | .fn=>∃Z a c d,x.Wk S Z a c d w/\((∃i:Nat,x.N<=i/\i<=1000000/\g=G ((qir 141).at ⟨#[pt x.Nx,.int .i64 1,qhE,qhE,.int .i64 0,pt x.Nx,pt x.Nx,pt x.Nx,.int .i64 1,.int .i64 (i+1)],[]⟩ [.inRegion ZD [5],.code .ret]) [f1 c (dn x.Wg),bot]) \/
   (a.tmps[18]?=some (.bool false)/\g=G ((qir 142).at ⟨#[pt x.Fd,qhE,.bool false,pt x.Fd,pt x.Fd,pt x.Fd,.int .u32 1,qhE],[]⟩ [.inRegion ZC [4,5],.code .ret]) [f2 c (dn x.Wg),bot]))
def fin:Lam->Prop | .fn=>True | _=>False
def Tr(W:Nat × Bool)(l:Lam)(γ':Nat × Bool)(a:Lam):Prop :=
 ((l=.st\/∃i,l=.wk i/\x.bad i=false)/\γ'=(W.1+1,W.2)/\a=(if W.1<x.N then .ld W.1 else .fn)) \/
 (∃i,l=.ld i/\γ'=W/\a=(if W.2 then .fn else .wk i)) \/
 (∃i,l=.wk i/\x.bad i=true/\i<x.N/\γ'=(W.1,true)/\a=.st)
def YL:Lam->Bool | .fn=>true | _=>false
def xS:Nat->(Nat->Lam)->Nat
 | 0,_=>0
 | j+1,ls=>xS j ls+(if YL (ls j) then 1 else 0)
def J(W:Nat × Bool)(j:Nat)(ls:Nat->Lam):Prop :=
 W.1<=x.N+xS j ls/\(W.2=true->∃i,i<x.N/\x.bad i=true)/\(W.2=false->∀i,i<x.N->i<W.1->x.bad i=false\/∃k,k<j/\(ls k=.ld i\/ls k=.wk i))/\(∀k,k<j->ls k=.fn->W.2=true\/x.N<=W.1)
def m(W:Nat × Bool):Nat:=3*(x.N - W.1)
def nu:Lam->Nat | .fn=>0 | .st=>1 | .wk _=>2 | .ld _=>3
noncomputable def cfg:Cfg (Nat × Bool) Lam where
 P:=qi8
 ty:=166
 Wg:=x.Wg
 lo:=x.lo
 n:=min 4 x.N
 Fz:=x.Fz
 Sy:=x.Sy
 clA:=x.clA
 DataAt:=x.DataAt
 WA:=x.WA
 Tr:=x.Tr
 J:=x.J
 m:=x.m
 nu:=nu
 l0:=.st
 fin:=fin
 W1:=x.W1
 Fin:=x.Fin
 AnchW:=x.AnchW
 Post:=x.Post
end Ph4
end Go.Proofs.YtidgnkmjgioapaaGreat
end
section
namespace Go.Proofs.YtidgnkmjgioapaaGreat
open Go Go.RowKit Go.Conc Go.ConcN Go.ConcN.Gen Go.Conc.Lib Go.ConcR.Gen Go.Co Go.Sim
namespace Ph4
section
variable{x:Ph4}{S:Bs}{w w₁:qhy}{Z:Ren}{a:Act}{tm:Array qhC}{wq:qhy}
def kt:∀a b c,x.cfg.K a b->x.cfg.K b c->x.cfg.K a c:=Cfg.K.trans
def Cm.rely(h:x.Cm w)(r:RC x.Fz x.cfg.K S w w₁):x.Cm w₁ :=
 ⟨⟨r.k.1 h.liv.1,r.k.2 h.liv.2⟩,λb c=>(r.fz b c).t (h.fz b c),qi1 h.size r.size,r.os.trans h.os⟩
def Liv.cells(h:x.Liv w){b:Nat}(d:b∈x.jks):∃c e f,w.heap[b]?=some (.cells c e f):=by
 obtain⟨⟨l,n,i⟩,W,k,j⟩:=h;unfold jks at d;simp only[qjB,qk5,or_false] at d;rcases d with rfl | rfl | rfl
 ·exact⟨_,_,_,i⟩
 ·exact⟨_,_,_,k⟩
 ·exact⟨_,_,_,j⟩
def Wk.to(h:x.Wk S Z a tm wq w)(g:∀b,x.Fz b\/S b->w₁.heap[b]?=w.heap[b]?)(k:w.heap.size<=w₁.heap.size)(l:w₁.os=w.os)(n:x.Liv w₁):x.Wk S Z a tm wq w₁:=by
 letI:JunkSet:=x.js
 exact{ h with rel:=⟨h.rel.len,h.rel.wr.rely k (by rw[l]) (λi j c d=>by
    rcases qk2 i x.W1.heap.size with e | f
    ·exact g j (.inl (h.rel.own.low i j c e d))
    ·exact g j (.inr (h.rel.own.own i j c f))) (λi j c d=>n.cells (h.rel.jb i j c d)),h.rel.gl,h.rel.tm,h.rel.df,h.rel.own,h.rel.jb,h.rel.js⟩ }
def Wk.rely(h:x.Wk S Z a tm wq w)(c:x.Cm w)(r:RC x.Fz x.cfg.K S w w₁):x.Wk S Z a tm wq w₁ :=
 h.to (λb d=>d.elim (r.fz b) (r.own b)) r.size r.os (c.rely r).liv
def Wk.set(h:x.Wk S Z a tm wq w)(i:Nat)(d:7<=i){u v:qhC}(b:@VR x.js Z u v):x.Wk S Z ⟨a.tmps.setIfInBounds i u,a.defers⟩ (tm.setIfInBounds i v) wq w:=by
 letI:JunkSet:=x.js
 exact{ h with
  rel:=⟨h.rel.len,h.rel.wr,h.rel.gl,@AsR.set x.js _ _ _ h.rel.tm i _ _ b,h.rel.df,h.rel.own,h.rel.jb,h.rel.js⟩
  sz:=by simp[h.sz]
  cap:=λk c=>by
   show(a.tmps.setIfInBounds i u)[k]?=_;rw[qjj (by omega)];exact h.cap k c }
def br0{b:Nat}(d:b∈x.nds\/b∈x.jks)(c:b<x.W1.heap.size):BR x.r0 b b:=Yw.2 ⟨c,rfl,d⟩
def Wk.ptr(h:x.Wk S Z a tm wq w){k b:Nat}(i:a.tmps[k]?=some (pt b))(j:BR x.r0 b b):tm[k]?.getD qhE=pt b:=by
 letI:JunkSet:=x.js
 have⟨y,g,e⟩:=@AsR.get x.js _ _ _ h.rel.tm k _ i;rw[g];unfold pt at e ⊢;cases e with
 | ptr f d c=>rw[BR.fn c (j.mono h.le)];rfl
def Wk.bool(h:x.Wk S Z a tm wq w){k:Nat}{t:Bool}(d:a.tmps[k]?=some (.bool t)):tm[k]?.getD qhE=.bool t:=by
 letI:JunkSet:=x.js
 have⟨y,b,c⟩:=@AsR.get x.js _ _ _ h.rel.tm k _ d;rw[b];cases c;rfl
def Wk.tsz(h:x.Wk S Z a tm wq w):tm.size=60:=by
 letI:JunkSet:=x.js
 have b:=h.rel.tm.1;rw[<- b];exact h.sz
def Ok.fz(o:x.Ok){b:Nat}(c:b∈x.nds):x.Fz b:=by
 have⟨d,e,f,h,_⟩:=o.nok b c;exact⟨(qhB.1 h).1,o.nro b c⟩
def Ok.dj(o:x.Ok):∀b∈x.nds,b∉x.jks:=λb e d=>by
 have c:=o.nro b e;rw[o.sync b d] at c;cases c
def Ok.ndlt(o:x.Ok){b:Nat}(c:b∈x.nds):b<x.W1.heap.size:=(o.fz c).1
def Ok.t1(o:x.Ok)(h:x.Wk S Z a tm wq w):tm[1]?.getD qhE=pt x.Nx:=h.ptr ((h.cap 1 (by omega)).t (by simp[tmp0,tm0,qln])) (br0 (.inr (by simp[jks])) (o.jlt _ (by simp[jks])))
def Ok.t2(o:x.Ok)(h:x.Wk S Z a tm wq w):tm[2]?.getD qhE=pt x.A:=h.ptr ((h.cap 2 (by omega)).t (by simp[tmp0,tm0,qln])) (br0 (.inl o.nA) (o.ndlt o.nA))
def Ok.t3(o:x.Ok)(h:x.Wk S Z a tm wq w):tm[3]?.getD qhE=pt x.Fd:=h.ptr ((h.cap 3 (by omega)).t (by simp[tmp0,tm0,qln])) (br0 (.inr (by simp[jks])) (o.jlt _ (by simp[jks])))
def Ok.cellA(o:x.Ok)(h:x.Cm w):w.cell? x.A=some (.slice x.ab x.N x.ac):=q8 ((h.fz _ (o.fz o.nA)).t o.hA) rfl
def Ok.vrA(o:x.Ok):@VR x.js x.r0 (.slice x.ab x.N x.ac) (.slice x.ab x.N x.ac):=by
 have⟨c,e,f,h,b⟩:=o.nok _ o.nA;rw[o.hA] at h;cases h;exact b 0 _ rfl
end
end Ph4
end Go.Proofs.YtidgnkmjgioapaaGreat
end
section
namespace Go.Proofs.YtidgnkmjgioapaaGreat
open Go Go.RowKit Go.Conc Go.ConcN Go.ConcN.Gen Go.Conc.Lib Go.ConcR.Gen Go.Co Go.Sim
def QC{w:qhy}{b o:Nat}{c:Array qhC}{e:qid}(h:w.heap[b]?=some (.cells c e (0,0))):w.frozen? ⟨b,o,none⟩=false:=by
 simp[qlw,h]
def qe7{n:Nat}(h:n<=1000001):IntKind.i64.wrap (n:Int)=n:=qiv _ (by omega)
namespace Ph4
def qeo(j:Nat)(ls:Nat->Lam):xS j ls<=j:=by
 induction j with
 | zero=>exact qhz _
 | succ j b=>unfold xS;split<;>omega
section
variable{x:Ph4}(o:x.Ok){S:Bs}{w:qhy}{Z:Ren}{a:Act}{tm:Array qhC}{wq:qhy}
include o
theorem Ok.fzne{b:Nat}(d:x.Fz b){j:Nat}(c:j∈x.jks):b≠j:=by
 rintro rfl;have h:=d.2;rw[o.sync _ c] at h;cases h
theorem Ok.after(e:x.Cm w){b:Nat}(f:b=x.Nx\/b=x.Fd)(v:qhC){γ':Nat × Bool}(j:x.DataAt γ' (w.setCell b v)):x.Cm (w.setCell b v) where
 liv:=by
  have⟨g,h,i⟩:=e.liv.1;refine⟨⟨g,h,?_⟩,γ',j⟩;show(w.setCell b v).heap[x.Wg]?=_;rw[qlt _ _ _ _ (by rcases f with rfl | rfl;exact o.ne2;exact o.ne3)];exact i
 fz:=λc d=>by
  rw[qlt _ _ _ _ (o.fzne d (by rcases f with rfl | rfl<;>simp[jks]))];exact e.fz c d
 size:=by simpa using e.size
 os:=e.os
theorem Ok.wkafter(i:x.Cm w)(h:x.Wk S Z a tm wq w){b:Nat}(g:b=x.Nx\/b=x.Fd)(v:qhC)(f:x.Liv (w.setCell b v)):x.Wk S Z a tm wq (w.setCell b v):=by
 letI:JunkSet:=x.js
 have e:b∈x.jks:=by rcases g with rfl | rfl<;>simp[jks]
 refine h.to (λc d=>?_) (by simp) rfl f;refine qlt _ _ _ _ ?_;rcases d with d | d
 ·exact o.fzne d e
 ·rintro rfl;exact h.rel.js _ (o.jlt _ e) d
theorem Ok.sync1{l:Lam}(t:l=.st\/∃i,l=.wk i/\x.bad i=false)(v:x.Cm w)(h:x.Wk S Z a tm wq w) :x.cfg.Stop l S (G ((qir 141).at ⟨#[pt x.Nx,.int .i64 1,qhE,qhE,.int .i64 0,pt x.Nx,pt x.Nx,pt x.Nx,.int .i64 1,qhE],[]⟩ [.inRegion ZD [4,5],.code .ret]) (f1 tm (dn x.Wg)::[bot])) w:=by
 refine⟨rfl,.inr ⟨by rcases t with rfl | ⟨i,rfl,_⟩<;>exact id,?_⟩⟩;rintro⟨c,b⟩ B ⟨j,ls,z,hJ⟩;have hγ:c<=x.N+4:=by
  have I:c<=x.N+xS j ls:=hJ.1;have F:=qeo j ls;have H:j<=min 4 x.N:=z;omega
 have D:=o.hN;obtain⟨s,C⟩:=B;have d:w.cell? x.Nx=some (.int .i64 c):=q8 s rfl;have y:=QC (o:=0) s;have p:IntKind.i64.wrap ((c:Int)+1)=c+1:=by have:=qe7 (n:=c+1) (by omega);simpa using this
 have k:x.DataAt (c+1,b) (w.setCell x.Nx (.int .i64 (c+1))):=by
  refine⟨?_,?_⟩
  ·rw[qps _ _ _ _ _ _ s];simp
  ·rw[qlt _ _ _ _ (Ne.symm o.ne1)];exact C
 have f:=o.after v (.inl rfl) (.int .i64 (c+1)) k;have g:=o.wkafter v h (.inl rfl) (.int .i64 (c+1)) f.liv;refine⟨G ((qir 141).at ⟨#[pt x.Nx,.int .i64 1,qhE,qhE,.int .i64 0,pt x.Nx,pt x.Nx,pt x.Nx,.int .i64 1,.int .i64 (c+1)],[]⟩ [.inRegion ZD [5],.code .ret]) (f1 tm (dn x.Wg)::[bot]),w.setCell x.Nx (.int .i64 (c+1)),#[⟨.cell ⟨x.Nx,0,none⟩,false,true⟩,⟨.cell ⟨x.Nx,0,none⟩,true,true⟩],(c+1,b),if c<x.N then .ld c else .fn,?_,λc r=>qlt _ _ _ _ λe=>r (.inl e),by simp,rfl,rfl,?_,k,.inl ⟨t,rfl,rfl⟩,?_⟩
 ·refine(qmi (o:=ZD[4]'(by simp only[ZD,qoC,qi0,sqA,sqB,qO];decide)) (by simp) (by simp only[ZD,qoC,qi0,sqA,sqB,qO];rfl) (by k_ne) (by simp only[ZD,qoC,qi0,sqA,sqB,qO];rfl) Tryz.func179 (by kernel_rfl) (by kernel_rfl) (by kernel_rfl) .i64 (by kernel_rfl) rfl rfl d y).trans ?_;rw[p];simp only[ZD,qoC,qi0,sqA,sqB,qO];rfl
 ·intro e u;simp at u;rcases u with rfl | rfl
  ·exact⟨_,_,rfl,.inl rfl⟩
  ·exact⟨_,_,rfl,.inl rfl⟩
 ·show x.WA _ _ _ _;split
  ·rename_i q
   exact⟨f,q,Z,a,tm,wq,g,rfl⟩
  ·rename_i A
   exact⟨f,Z,a,tm,wq,g,.inl ⟨c,by omega,by omega,rfl⟩⟩
theorem Ok.sync2{i:Nat}(p:i<x.N)(n:x.Cm w)(h:x.Wk S Z a tm wq w)(r:a.tmps[7]?=some (.int .i64 i))(f:a.tmps[18]?=some (.bool false)) :x.cfg.Stop (.ld i) S (G ((qir 142).at ⟨#[pt x.Fd,qhE,.bool false,pt x.Fd,pt x.Fd,pt x.Fd,qhE,qhE],[]⟩ [.inRegion ZC [3,4,5],.code .ret]) (f2 tm (dn x.Wg)::[bot])) w:=by
 refine⟨rfl,.inr ⟨id,?_⟩⟩;rintro⟨c,b⟩ l ⟨j,ls,t,hJ⟩;have g:=l;obtain⟨u,s⟩:=l;have d:w.cell? x.Fd=some (.int .u32 (if b then 1 else 0)):=q8 s rfl;refine⟨G ((qir 142).at ⟨#[pt x.Fd,qhE,.bool false,pt x.Fd,pt x.Fd,pt x.Fd,.int .u32 (if b then 1 else 0),qhE],[]⟩ [.inRegion ZC [4,5],.code .ret]) (f2 tm (dn x.Wg)::[bot]),w,#[⟨.cell ⟨x.Fd,0,none⟩,false,true⟩],(c,b),if b then .fn else .wk i,?_,λc q=>rfl,rfl,rfl,rfl,?_,g,.inr (.inl ⟨i,rfl,rfl,rfl⟩),?_⟩
 ·refine(qmu (o:=ZC[3]'(by simp only[ZC,qof,qi0,sqA,sqB,qO];decide)) (by simp) (by simp only[ZC,qof,qi0,sqA,sqB,qO];rfl) (by k_ne) (by simp only[ZC,qof,qi0,sqA,sqB,qO];rfl) Tryz.func180 (by kernel_rfl) (by kernel_rfl) (by kernel_rfl) .u32 (by kernel_rfl) rfl d).trans ?_;simp only[ZC,qof,qi0,sqA,sqB,qO];rfl
 ·intro e k;simp at k;subst k;exact⟨_,_,rfl,.inr rfl⟩
 ·show x.WA _ _ _ _;cases b with
  | true=>exact⟨n,Z,a,tm,wq,h,.inr ⟨f,rfl⟩⟩
  | false=>exact⟨n,p,Z,a,tm,wq,h,r,f,rfl⟩
theorem Ok.sync3{i:Nat}(s:i<x.N)(u:x.bad i=true)(q:x.Cm w)(h:x.Wk S Z a tm wq w) :x.cfg.Stop (.wk i) S (G ((qir 143).at ⟨#[pt x.Fd,.bool true,qhE,qhE,pt x.Fd,pt x.Fd,pt x.Fd,.bool true,.int .u32 1,qhE],[]⟩ [.inRegion YK [5]]) (f10 tm (dn x.Wg)::[bot])) w:=by
 refine⟨rfl,.inr ⟨id,?_⟩⟩;rintro⟨c,b⟩ t ⟨j,ls,y,hJ⟩;obtain⟨v,n⟩:=t;have d:w.cell? x.Fd=some (.int .u32 (if b then 1 else 0)):=q8 n rfl;have r:=QC (o:=0) n;have f:x.DataAt (c,true) (w.setCell x.Fd (.int .u32 1)):=by
  refine⟨?_,?_⟩
  ·rw[qlt _ _ _ _ o.ne1];exact v
  ·rw[qps _ _ _ _ _ _ n];simp
 have g:=o.after q (.inr rfl) (.int .u32 1) f;have k:=o.wkafter q h (.inr rfl) (.int .u32 1) g.liv;refine⟨G ((qir 143).at ⟨#[pt x.Fd,.bool true,qhE,qhE,pt x.Fd,pt x.Fd,pt x.Fd,.bool true,.int .u32 1,.tuple #[]],[]⟩ [.inRegion YK []]) (f10 tm (dn x.Wg)::[bot]),w.setCell x.Fd (.int .u32 1),#[⟨.cell ⟨x.Fd,0,none⟩,true,true⟩],(c,true),.st,?_,λc l=>qlt _ _ _ _ λe=>l (.inr e),by simp,rfl,rfl,?_,f,.inr (.inr ⟨i,rfl,u,s,rfl,rfl⟩),?_⟩
 ·refine(stepG_store_atomic (o:=YK[5]'(by simp only[YK,qpg,qi0,sqA,sqB,qO];decide)) (by simp) (by simp only[YK,qpg,qi0,sqA,sqB,qO];rfl) (by k_ne) (by simp only[YK,qpg,qi0,sqA,sqB,qO];rfl) Tryz.func181 (by kernel_rfl) (by kernel_rfl) (by kernel_rfl) (by kernel_rfl) rfl rfl d r).trans ?_;simp only[YK,qpg,qi0,sqA,sqB,qO];rfl
 ·intro e p;simp at p;subst p;exact⟨_,_,rfl,.inr rfl⟩
 ·exact(⟨g,.inr ⟨Z,a,tm,wq,k,rfl⟩⟩:x.WA .st S _ _)
end
end Ph4
end Go.Proofs.YtidgnkmjgioapaaGreat
end
section
namespace Go.Proofs.YtidgnkmjgioapaaGreat
open Go Go.RowKit Go.Conc Go.ConcN Go.ConcN.Gen Go.Conc.Lib Go.ConcR.Gen Go.Co Go.Sim
def qd2[JunkSet]{Z:Ren}{t:Array qhC}(h:∀v∈t,VR Z v v):AsR Z t t:=⟨rfl,λi u v c b=>by
 rw[c] at b;cases b;exact h u (qk4 c)⟩
def qgq:wX=.seq wR3 (.seq wR4 (.seq wR9 q3w)):=by kernel_rfl
def ck3:kE Ya ls wR3=true:=by kernel_rfl
def ck4:kE Ya ls wR4=true:=by kernel_rfl
def ck9:kE Ya ls wR9=true:=by kernel_rfl
def hrr(c:qi5):qis c [bot]=none:=by
 unfold qis;split
 ·rename_i h
  cases h;simp[bot,qqp]
 ·rename_i h
  cases h;have:qis bot []=none:=by
   unfold qis;rfl
  rw[this];rfl
 ·rfl
namespace Ph4
section
variable{x:Ph4}(o:x.Ok){S:Bs}{w:qhy}{Z:Ren}{a:Act}{tm:Array qhC}{wq:qhy}
include o
theorem Ok.born(f:x.Cm w)(n:∀b,¬ S b):x.Wk S x.r0 ⟨x.tmp0,[]⟩ x.tmp0 x.w0 w:=by
 letI:JunkSet:=x.js
 refine⟨⟨by simp[r0,Go.Co.lr],?_,λi p=>?_,?_,rfl,⟨λi j h _ g=>?_,λi j h c=>?_⟩,λi j h g=>?_,λj _=>n j⟩,Le.refl _,qi2 _ _,by simp[tmp0,tm0],λ_ _=>rfl⟩
 ·exact qh0 (λi=>Iff.rfl) (by kernel_rfl) o.dj (λb c=>o.ndlt c) o.jlt o.nok (λb c=>f.fz b (o.fz c)) f.size f.os λb c=>f.liv.cells c
 ·have q:Tryz.prog.globals.size=0:=by kernel_rfl
  have:i=0:=by omega
  subst this;exact br0 (.inl o.n0) (o.ndlt o.n0)
 ·refine qd2 λv k=>?_;have d:∀b,b∈x.nds\/b∈x.jks->VR x.r0 (pt b) (pt b):=λb c=>.ptr 0 none (br0 c (c.elim (λh=>o.ndlt h) λh=>o.jlt _ h));simp only[tmp0,tm0,qlf,Array.mem_replicate,qlh,qjB,qk5,or_false] at k;rcases k with(rfl | rfl | rfl | rfl | rfl | rfl | rfl) | ⟨_,rfl⟩
  ·exact d _ (.inr (by simp[jks]))
  ·exact d _ (.inr (by simp[jks]))
  ·exact d _ (.inl o.nA)
  ·exact d _ (.inr (by simp[jks]))
  ·exact d _ (.inl o.nY)
  ·exact d _ (.inl o.nV)
  ·exact d _ (.inl o.nB)
  ·exact kO _
 ·obtain⟨l,rfl,e⟩:=Yw.1 h;rcases e with e | e
  ·exact o.fz e
  ·exact absurd e g
 ·obtain⟨l,rfl,e⟩:=Yw.1 h;omega
 ·obtain⟨l,rfl,e⟩:=Yw.1 h;exact g
theorem Ok.piece{d:Bs->qhD->qhy->Prop}(hSo:∀S g w t,d S g w->d S { g with offers:=t } w){c:qkk}(hco:kE Ya ls c=true){k:List qm1}(hc:x.Cm w)(h:x.Wk S Z a tm wq w){R:Act->qhy->Prop}(hwp:∀T,c.wp Ya (yB R) a (wq.tp T))(hR:∀f u,R f u->f.defers=[]/\f.tmps.size=60/\(∀k,k<7->f.tmps[k]?=x.tmp0[k]?)/\x.w0.gb (u.tp x.w0.tape) none)(hend:∀s ρ' f j i l,R f i->x.Cm l->x.Wk s ρ' f j i l->ql qi8 x.Fz x.cfg.K d s (G ((qju 139).at ⟨j,dn x.Wg⟩ k) [bot]) l) :ql qi8 x.Fz x.cfg.K d S (G ((qju 139).at ⟨tm,dn x.Wg⟩ (.code c::k)) [bot]) w:=by
 letI:JunkSet:=x.js
 refine ql.piece (J:=x.js) (qf6 x.jk) (X:=⟨JS Ya Ya ls x.jk⟩) (up x.jk) (qf5 x.jk) hrf hrr qaF x.jk (λb=>b<x.W1.heap.size) x.Cm (λS w w₁ r e=>e.rely r) (λS w l L A q e=>?_) (λw b e n=>e.liv.cells n) (λw b e n=>qia n e.size) hSo (b:=qju 139) ?_ (by kernel_rfl) rfl (q5n (λ_ h=>h) (λ_ h=>h) (λ_ _ h=>h) hco) h.rel hc hwp (λf u p=>(hR f u p).1) ?_
 ·refine⟨⟨?_,?_⟩,λb n=>(q b n.1).trans (e.fz b n),qi1 e.size A.size,A.os.trans e.os⟩
  ·have⟨C,D,F⟩:=e.liv.1;exact⟨C,D,(q _ (o.jlt _ (by simp[jks]))).trans F⟩
  ·have⟨W,B,z⟩:=e.liv.2;exact⟨W,(q _ (o.jlt _ (by simp[jks]))).trans B,(q _ (o.jlt _ (by simp[jks]))).trans z⟩
 ·refine⟨_,(zh 139 (by decide)).trans qq8,qq8⟩
 ·intro ρ' f j i l s p v hrel y;have⟨B,z,I,H⟩:=hR _ _ p;exact hend s ρ' f j i l p y ⟨hrel,h.le.trans v,H,z,I⟩
end
end Ph4
end Go.Proofs.YtidgnkmjgioapaaGreat
end
section
namespace Go.Proofs.YtidgnkmjgioapaaGreat
open Go Go.RowKit Go.Conc Go.ConcN Go.ConcN.Gen Go.Conc.Lib Go.ConcR.Gen Go.Co Go.Sim
def qd3(z:Array qhC)(h:z.size=60):z=#[z[0]?.getD qhE,z[1]?.getD qhE,z[2]?.getD qhE,z[3]?.getD qhE,z[4]?.getD qhE,z[5]?.getD qhE,z[6]?.getD qhE,z[7]?.getD qhE,z[8]?.getD qhE,z[9]?.getD qhE,z[10]?.getD qhE,z[11]?.getD qhE,z[12]?.getD qhE,z[13]?.getD qhE,z[14]?.getD qhE,z[15]?.getD qhE,z[16]?.getD qhE,z[17]?.getD qhE,z[18]?.getD qhE,z[19]?.getD qhE,z[20]?.getD qhE,z[21]?.getD qhE,z[22]?.getD qhE,z[23]?.getD qhE,z[24]?.getD qhE,z[25]?.getD qhE,z[26]?.getD qhE,z[27]?.getD qhE,z[28]?.getD qhE,z[29]?.getD qhE,z[30]?.getD qhE,z[31]?.getD qhE,z[32]?.getD qhE,z[33]?.getD qhE,z[34]?.getD qhE,z[35]?.getD qhE,z[36]?.getD qhE,z[37]?.getD qhE,z[38]?.getD qhE,z[39]?.getD qhE,z[40]?.getD qhE,z[41]?.getD qhE,z[42]?.getD qhE,z[43]?.getD qhE,z[44]?.getD qhE,z[45]?.getD qhE,z[46]?.getD qhE,z[47]?.getD qhE,z[48]?.getD qhE,z[49]?.getD qhE,z[50]?.getD qhE,z[51]?.getD qhE,z[52]?.getD qhE,z[53]?.getD qhE,z[54]?.getD qhE,z[55]?.getD qhE,z[56]?.getD qhE,z[57]?.getD qhE,z[58]?.getD qhE,z[59]?.getD qhE]:=by
 obtain⟨y0,y1,y2,y3,y4,y5,y6,y7,y8,y9,c3,b9,b8,b7,b6,b0,a9,a8,a7,a6,Y,X,W,V,U,T,R,Q,P,O,N,M,L,I,H,G,F,D,C,B,A,y,v,u,t,s,r,q,p,n,l,k,j,i,g,f,e,d,c,b,rfl⟩:=KJ z h;rfl
def q55{w0 wq c:qhy}{T:Nat->qk9->Nat}(h:w0.gb (wq.tp w0.tape) none)(b:(wq.tp T).gb c none):w0.gb (c.tp w0.tape) none :=
 ⟨b.os.trans h.os,rfl,b.output.trans h.output,qi1 h.size b.size,λk e d=>(b.block k (qia e h.size) d).t (h.block k e d)⟩
def qcc{w0 wq:qhy}(T:Nat->qk9->Nat)(h:w0.gb (wq.tp w0.tape) none):(w0.tp T).gb (wq.tp T) none:=⟨h.os,rfl,h.output,h.size,h.block⟩
def qh7{w0 b:qhy}{T:Nat->qk9->Nat}(h:(w0.tp T).gb b none):w0.gb (b.tp w0.tape) none:=⟨h.os,rfl,h.output,h.size,h.block⟩
def qcC{z b:Array qhC}(e:z.size=60)(d:∀k,k<7->z[k]?=b[k]?)(k:Nat)(c:k<7):b[k]?=some (z[k]?.getD qhE):=by
 rw[<- d k c,qip (by omega)];rfl
namespace Ph4
section
variable{x:Ph4}(o:x.Ok){S:Bs}{w:qhy}{Z:Ren}{a:Act}{tm:Array qhC}{wq:qhy}
structure Base(x:Ph4)(i:Nat)(a:Act)(u:qhy):Prop where
 df:a.defers=[]
 sz:a.tmps.size=60
 cap:∀k,k<7->a.tmps[k]?=x.tmp0[k]?
 gr:x.w0.grownBy (u.tp x.w0.tape) none
 i7:a.tmps[7]?=some (.int .i64 i)
def Rows(x:Ph4)(g h:Nat->Int)(a:Act)(u:qhy):Prop:=∃c b,a.tmps[8]?=some (.pointer (some ⟨c,0,none⟩))/\a.tmps[9]?=some (.pointer (some ⟨b,0,none⟩))/\u.heap[c]?=some (qJ g)/\u.heap[b]?=some (qJ h)/\c≠b/\x.w0.heap.size<=c/\x.w0.heap.size<=b
def Wk.df(h:x.Wk S Z a tm wq w):a.defers=[]:=by
 letI:JunkSet:=x.js
 exact h.rel.df
include o
theorem Ok.capv(h:x.Wk S Z a tm wq w)(k b:Nat)(c:k<7)(e:x.tmp0[k]?=some (pt b)):a.tmps[k]?.getD qhE=.pointer (some b):=by
 rw[h.cap k c,e];rfl
theorem Ok.w0s:x.w0.heap.size=x.W1.heap.size:=q7E
theorem Ok.wp3(h:x.Wk S Z a tm wq w){i:Nat}(I:a.tmps[7]?=some (.int .i64 i))(T:Nat->qk9->Nat) :wR3.wp Ya (yB λa u=>x.Base i a u/\x.Rows x.gn x.gx a u) a (wq.tp T):=by
 have b:=h.df;obtain⟨z,d⟩:=a;have b:d=[]:=b;subst b;have g:z[4]?.getD qhE=.pointer (some x.Y):=o.capv h 4 x.Y (by omega) (by simp[tmp0,tm0]);have p:=qcC h.sz h.cap;have j:z.size=60:=h.sz;have c:z[7]?=some (.int .i64 i):=I;have f:=qcc T h.gr;have H:qn 0 x.W1.heap.size (wq.tp T) (.slice x.yb x.ps.length x.yc) x.ps:=(show qn 0 x.W1.heap.size (x.w0.tp T) (.slice x.yb x.ps.length x.yc) x.ps from q7F (Q:=Ya) (jks:=x.jks) o.pars o.dj o.nyb).kept f;have C:=o.ndlt o.nY;have r:(wq.tp T).cell? x.Y=some (.slice x.yb x.ps.length x.yc):=f.cl (xM o.nY (o.dj _ o.nY) o.hY rfl);have q:(wq.tp T).cell? ⟨x.Y,1,none⟩=some (.int .i64 x.lim):=f.cl (xM o.nY (o.dj _ o.nY) o.hY rfl);have y:x.W1.heap.size<=(wq.tp T).heap.size:=by rw[<- o.w0s];exact f.size
 generalize e:(λk:Nat=>z[k]?.getD qhE)=t;have A:z=#[t 0,t 1,t 2,t 3,t 4,t 5,t 6,t 7,t 8,t 9,t 10,t 11,t 12,t 13,t 14,t 15,t 16,t 17,t 18,t 19,t 20,t 21,t 22,t 23,t 24,t 25,t 26,t 27,t 28,t 29,t 30,t 31,t 32,t 33,t 34,t 35,t 36,t 37,t 38,t 39,t 40,t 41,t 42,t 43,t 44,t 45,t 46,t 47,t 48,t 49,t 50,t 51,t 52,t 53,t 54,t 55,t 56,t 57,t 58,t 59]:=by subst e;exact qd3 z j
 have g:t 4=.pointer (some x.Y):=by subst e;exact g
 have p:∀k,k<7->x.tmp0[k]?=some (t k):=by subst e;exact p
 have c:t 7=.int .i64 i:=by subst e;show z[7]?.getD qhE=_;rw[c];rfl
 rw[A];refine qfB 0 x.W1.heap.size t (wq.tp T) _ x.ps x.lim x.Y x.yb x.yc g H y o.n5 r q (by omega) λM L N _ _ _ _ n v s l G F=>?_;have B:x.w0.heap.size<=(wq.tp T).heap.size:=by rw[o.w0s];exact y
 refine⟨⟨rfl,rfl,λk D=>?_,q55 h.gr n,by rw[<- c];rfl⟩,M,L,rfl,rfl,v,s,l,by omega,by omega⟩;rw[p k D];obtain rfl | rfl | rfl | rfl | rfl | rfl | rfl:k=0\/k=1\/k=2\/k=3\/k=4\/k=5\/k=6:=by omega
 all_goals first | rfl | (rw[g];rfl)
theorem Ok.wp4(h:x.Wk S Z a tm wq w){i:Nat}(W:i<x.N)(hb:x.Base i a wq)(R:x.Rows x.gn x.gx a wq)(T:Nat->qk9->Nat) :wR4.wp Ya (yB λa u=>x.Base i a u/\x.Rows (ovr (x.c i) x.gn x.wl x.wl.length) (ovr (x.c i) x.gx x.wl x.wl.length) a u) a (wq.tp T):=by
 obtain⟨s,r,n,l,H,G,f,j,g⟩:=R;have e:=h.df;obtain⟨z,d⟩:=a;have e:d=[]:=e;subst e;have L:=o.capv h 4 x.Y (by omega) (by simp[tmp0,tm0]);have q:=o.capv h 2 x.A (by omega) (by simp[tmp0,tm0]);have p:=o.capv h 5 x.V (by omega) (by simp[tmp0,tm0]);have M:=o.capv h 6 x.B (by omega) (by simp[tmp0,tm0]);have C:=qcC h.sz h.cap;have v:z.size=60:=h.sz;have I:z[7]?=some (.int .i64 i):=hb.i7;have n:z[8]?=some (.pointer (some s)):=n;have l:z[9]?=some (.pointer (some r)):=l;have X:=qcc T h.gr;have P:x.W1.heap.size<=(x.w0.tp T).heap.size:=qn5 o.w0s.symm;generalize b:(λk:Nat=>z[k]?.getD qhE)=t;have O:z=#[t 0,t 1,t 2,t 3,t 4,t 5,t 6,t 7,t 8,t 9,t 10,t 11,t 12,t 13,t 14,t 15,t 16,t 17,t 18,t 19,t 20,t 21,t 22,t 23,t 24,t 25,t 26,t 27,t 28,t 29,t 30,t 31,t 32,t 33,t 34,t 35,t 36,t 37,t 38,t 39,t 40,t 41,t 42,t 43,t 44,t 45,t 46,t 47,t 48,t 49,t 50,t 51,t 52,t 53,t 54,t 55,t 56,t 57,t 58,t 59]:=by subst b;exact qd3 z v
 have L:t 4=.pointer (some x.Y):=by subst b;exact L
 have q:t 2=.pointer (some x.A):=by subst b;exact q
 have p:t 5=.pointer (some x.V):=by subst b;exact p
 have M:t 6=.pointer (some x.B):=by subst b;exact M
 have C:∀k,k<7->x.tmp0[k]?=some (t k):=by subst b;exact C
 have I:t 7=.int .i64 i:=by subst b;show z[7]?.getD qhE=_;rw[I];rfl
 have n:t 8=.pointer (some s):=by subst b;show z[8]?.getD qhE=_;rw[n];rfl
 have l:t 9=.pointer (some r):=by subst b;show z[9]?.getD qhE=_;rw[l];rfl
 rw[O];refine qfA 0 x.W1.heap.size t (x.w0.tp T) (wq.tp T) _ x.A x.V _ x.vv x.N i x.c x.wl s r x.gn x.gx q (xM o.nA (o.dj _ o.nA) o.hA rfl) (qbF (Q:=Ya) (jks:=x.jks) o.cas o.dj o.nab) p (xM o.nV (o.dj _ o.nV) o.hV rfl) (q7H (Q:=Ya) (jks:=x.jks) o.ints o.dj o.nvv) I W n l X H G f j g P o.hwl ?_;intro _ _ _ _ _ _ _ _ _ _ _ _ _ _ _ _ _ _ _ _ _ _ _ _ w' y F D;refine⟨⟨rfl,rfl,λk U=>?_,qh7 y,rfl⟩,s,r,rfl,rfl,F,D,f,j,g⟩;rw[C k U];obtain rfl | rfl | rfl | rfl | rfl | rfl | rfl:k=0\/k=1\/k=2\/k=3\/k=4\/k=5\/k=6:=by omega
 all_goals first | rfl | (rw[q];rfl) | (rw[p];rfl)
theorem Ok.wp9(h:x.Wk S Z a tm wq w){i:Nat}(hi:i<x.N)(hb:x.Base i a wq)(P:x.Rows (ovr (x.c i) x.gn x.wl x.wl.length) (ovr (x.c i) x.gx x.wl x.wl.length) a wq)(T:Nat->qk9->Nat) :wR9.wp Ya (yB λa u=>x.Base i a u/\a.tmps[58]?=some (.bool (x.bad i))) a (wq.tp T):=by
 obtain⟨G,F,j,f,C,y,R,X,W⟩:=P;have e:=h.df;obtain⟨z,d⟩:=a;have e:d=[]:=e;subst e;have n:=o.capv h 4 x.Y (by omega) (by simp[tmp0,tm0]);have L:=o.capv h 2 x.A (by omega) (by simp[tmp0,tm0]);have I:=o.capv h 5 x.V (by omega) (by simp[tmp0,tm0]);have p:=o.capv h 6 x.B (by omega) (by simp[tmp0,tm0]);have v:=qcC h.sz h.cap;have q:z.size=60:=h.sz;have D:z[7]?=some (.int .i64 i):=hb.i7;have j:z[8]?=some (.pointer (some G)):=j;have f:z[9]?=some (.pointer (some F)):=f;have s:=qcc T h.gr;have O:x.W1.heap.size<=(x.w0.tp T).heap.size:=qn5 o.w0s.symm;generalize b:(λk:Nat=>z[k]?.getD qhE)=t;have M:z=#[t 0,t 1,t 2,t 3,t 4,t 5,t 6,t 7,t 8,t 9,t 10,t 11,t 12,t 13,t 14,t 15,t 16,t 17,t 18,t 19,t 20,t 21,t 22,t 23,t 24,t 25,t 26,t 27,t 28,t 29,t 30,t 31,t 32,t 33,t 34,t 35,t 36,t 37,t 38,t 39,t 40,t 41,t 42,t 43,t 44,t 45,t 46,t 47,t 48,t 49,t 50,t 51,t 52,t 53,t 54,t 55,t 56,t 57,t 58,t 59]:=by subst b;exact qd3 z q
 have n:t 4=.pointer (some x.Y):=by subst b;exact n
 have L:t 2=.pointer (some x.A):=by subst b;exact L
 have I:t 5=.pointer (some x.V):=by subst b;exact I
 have p:t 6=.pointer (some x.B):=by subst b;exact p
 have v:∀k,k<7->x.tmp0[k]?=some (t k):=by subst b;exact v
 have D:t 7=.int .i64 i:=by subst b;show z[7]?.getD qhE=_;rw[D];rfl
 have j:t 8=.pointer (some G):=by subst b;show z[8]?.getD qhE=_;rw[j];rfl
 have f:t 9=.pointer (some F):=by subst b;show z[9]?.getD qhE=_;rw[f];rfl
 rw[M];have H:∀(g:Nat->Int),(∀d,0<=g d/\g d<=1000)->∀d,0<=ovr (x.c i) g x.wl x.wl.length d/\ovr (x.c i) g x.wl x.wl.length d<=1000:=λg s d=>by
  unfold ovr;split
  ·exact o.bc i d
  ·exact s d
 refine qfz 0 x.W1.heap.size t (x.w0.tp T) (wq.tp T) _ x.Y x.B x.yb x.yc x.pv x.ps x.lim x.l G F _ _ n (xM o.nY (o.dj _ o.nY) o.hY rfl) (xM o.nY (o.dj _ o.nY) o.hY rfl) (q7F (Q:=Ya) (jks:=x.jks) o.pars o.dj o.nyb) p (xM o.nB (o.dj _ o.nB) o.hB rfl) (q7H (Q:=Ya) (jks:=x.jks) o.intp o.dj o.npv) j f s C y O o.n5 o.hl o.ll (H _ o.bmn) (H _ o.bmx) ?_;intro _ _ _ _ _ _ _ _ _ _ w' r;refine⟨⟨rfl,rfl,λk U=>?_,q55 h.gr r,by rw[<- D];rfl⟩,rfl⟩;rw[v k U];obtain rfl | rfl | rfl | rfl | rfl | rfl | rfl:k=0\/k=1\/k=2\/k=3\/k=4\/k=5\/k=6:=by omega
 all_goals first | rfl | (rw[n];rfl) | (rw[p];rfl)
theorem Ok.walk{c:Bs->qhD->qhy->Prop}(hSo:∀S g w s,c S g w->c S { g with offers:=s } w){i:Nat}(hi:i<x.N)(hc:x.Cm w)(h:x.Wk S Z a tm wq w)(h7:a.tmps[7]?=some (.int .i64 i))(hend:∀B ρ' l d p q,x.Cm q->x.Wk B ρ' l d p q->l.tmps[58]?=some (.bool (x.bad i))->ql qi8 x.Fz x.cfg.K c B (G ((qju 139).at ⟨d,dn x.Wg⟩ (.code q3w::.inBlock 1::jw)) [bot]) q) :ql qi8 x.Fz x.cfg.K c S (G ((qju 139).at ⟨tm,dn x.Wg⟩ (.code wX::.inBlock 1::jw)) [bot]) w:=by
 rw[qgq];refine ql.seq kt ?_;refine o.piece hSo ck3 hc h (λT=>o.wp3 h h7 T) (λl u b=>⟨b.1.df,b.1.sz,b.1.cap,b.1.gr⟩) λV ρ1 R I D P f A k=>?_;refine ql.seq kt ?_;refine o.piece hSo ck4 A k (λT=>o.wp4 k hi f.1 f.2 T) (λl u b=>⟨b.1.df,b.1.sz,b.1.cap,b.1.gr⟩) λU ρ2 Q H C O e z j=>?_;refine ql.seq kt ?_;refine o.piece hSo ck9 z j (λT=>o.wp9 j hi e.1 e.2 T) (λl u b=>⟨b.1.df,b.1.sz,b.1.cap,b.1.gr⟩) λM ρ3 L r n F t y v=>?_;exact hend M ρ3 L r n F y v t.2
end
end Ph4
end Go.Proofs.YtidgnkmjgioapaaGreat
end
section
namespace Go.Proofs.YtidgnkmjgioapaaGreat
open Go Go.RowKit Go.Conc Go.ConcN Go.ConcN.Gen Go.Conc.Lib Go.ConcR.Gen Go.Co Go.Sim
namespace Ph4
section
variable{x:Ph4}
def zS(j:Nat)(ls:Nat->Lam):xS (j+1) ls=xS j ls+(if YL (ls j) then 1 else 0):=rfl
def q9H{j i:Nat}{ls:Nat->Lam}{l:Lam}(d:YL (ls i)=false)(c:YL l=false):xS j (upd ls i l)=xS j ls:=by
 induction j with
 | zero=>rfl
 | succ j b=>
  rw[zS,zS];rw[b];by_cases e:j=i
  ·subst e;simp[upd,d,c]
  ·simp[upd,e]
def q5o{j i:Nat}{ls:Nat->Lam}{l:Lam}(b:YL (ls i)=false):xS j ls<=xS j (upd ls i l):=by
 induction j with
 | zero=>exact qhz _
 | succ j c=>
  rw[zS,zS];by_cases e:j=i
  ·subst e;simp[b];omega
  ·simp[upd,e];omega
def qep{j i:Nat}{ls:Nat->Lam}(g:i<j)(d:YL (ls i)=false):xS j (upd ls i .fn)=xS j ls+1:=by
 induction j with
 | zero=>omega
 | succ j c=>
  rw[zS,zS];by_cases e:j=i
  ·subst e;have:∀n,n<=j->xS n (upd ls j .fn)=xS n ls:=by
    intro n f;induction n with
    | zero=>rfl
    | succ n b=>
     rw[zS,zS];rw[b (by omega)];simp[upd,show n≠j by omega]
   rw[this j (qhz _),d,show YL (upd ls j .fn j)=true from by simp[upd,YL]];simp
  ·rw[c (by omega)];simp[upd,e];omega
def qcA{j:Nat}{ls:Nat->Lam}{l:Lam}(h:YL l=false):xS (j+1) (upd ls j l)=xS j ls:=by
 have:∀n,n<=j->xS n (upd ls j l)=xS n ls:=by
  intro n c;induction n with
  | zero=>rfl
  | succ n b=>
   rw[zS,zS];rw[b (by omega)];simp[upd,show n≠j by omega]
 rw[zS,this j (qhz _)];simp[upd,h]
def hJ0:∀W j ls,x.J W j ls->x.J W (j+1) (upd ls j .st):=by
 rintro W j ls ⟨q,p,n,l⟩;refine⟨by rw[qcA rfl];exact q,p,λg i f c=>?_,λk d b=>?_⟩
 ·rcases n g i f c with h | ⟨k,d,h⟩
  ·exact .inl h
  ·exact .inr ⟨k,by omega,by rw[show upd ls j .st k=ls k from by simp[upd,show k≠j by omega]];exact h⟩
 ·by_cases e:k=j
  ·subst e;simp[upd] at b
  ·rw[show upd ls j .st k=ls k from by simp[upd,e]] at b;exact l k (by omega) b
def hJ:∀W j ls i γ' r,x.J W j ls->i<j->x.Tr W (ls i) γ' r->x.J γ' j (upd ls i r):=by
 rintro W j ls i γ' r ⟨G,F,D,C⟩ B H;have v:∀k,k≠i->upd ls i r k=ls k:=λk g=>by simp[upd,g]
 have y:upd ls i r i=r:=by simp[upd]
 rcases H with⟨d,rfl,rfl⟩ | ⟨t,d,rfl,rfl⟩ | ⟨t,d,A,z,rfl,rfl⟩
 ·have c:YL (ls i)=false:=by rcases d with h | ⟨t,h,_⟩<;>rw[h]<;>rfl
  refine⟨?_,F,λs u p q=>?_,λk g b=>?_⟩
  ·by_cases n:W.1<x.N
   ·simp only[n,if_true];omega
   ·simp only[n,if_false];rw[qep B c];omega
  ·by_cases e:u=W.1
   ·subst e;exact .inr ⟨i,B,.inl (by rw[y,if_pos p])⟩
   ·rcases D s u p (by have:u<W.1+1:=q;omega) with h | ⟨k,g,h⟩
    ·exact .inl h
    ·by_cases f:k=i
     ·subst f;rcases d with d | ⟨t,d,A⟩
      ·rw[d] at h;rcases h with h | h<;>cases h
      ·rw[d] at h;rcases h with h | h
       ·cases h
       ·cases h;exact .inl A
     ·exact .inr ⟨k,g,by rw[v k f];exact h⟩
  ·by_cases f:k=i
   ·subst f;rw[y] at b;by_cases n:W.1<x.N
    ·rw[if_pos n] at b;cases b
    ·exact .inr (by show x.N<=W.1+1;omega)
   ·rw[v k f] at b;exact(C k g b).imp id λh=>by show x.N<=W.1+1;omega
 ·have c:YL (ls i)=false:=by rw[d];rfl
  refine⟨qi1 G (by have:=q5o (j:=j) (l:=if γ'.2 then Lam.fn else .wk t) c;omega),F,λs u p q=>?_,λk g b=>?_⟩
  ·rcases D s u p q with h | ⟨k,g,h⟩
   ·exact .inl h
   ·refine .inr ⟨k,g,?_⟩;by_cases f:k=i
    ·subst f;rw[d] at h;rcases h with h | h
     ·cases h;rw[y,s];exact .inr rfl
     ·cases h
    ·rw[v k f];exact h
  ·by_cases f:k=i
   ·subst f;rw[y] at b;cases hg:γ'.2 with
    | true=>exact .inl rfl
    | false=>rw[hg] at b;cases b
   ·rw[v k f] at b;exact C k g b
 ·have c:YL (ls i)=false:=by rw[d];rfl
  exact⟨by rw[q9H c rfl];exact G,λ_=>⟨t,z,A⟩,λs=>(by cases s),λk g b=>.inl rfl⟩
def hm:∀W l γ' c,x.Tr W l γ' c->x.m γ'+nu c<x.m W+nu l:=by
 rintro W l γ' c e;unfold m;rcases e with⟨f,rfl,rfl⟩ | ⟨d,rfl,rfl,rfl⟩ | ⟨d,rfl,j,g,rfl,rfl⟩
 ·have i:1<=nu l:=by rcases f with h | ⟨d,h,_⟩<;>rw[h]<;>simp[nu]
  show 3*(x.N - (W.1+1))+nu (if W.1<x.N then .ld W.1 else .fn)<3*(x.N - W.1)+nu l;by_cases b:W.1<x.N
  ·rw[if_pos b];show 3*(x.N - (W.1+1))+3<_;omega
  ·rw[if_neg b];show 3*(x.N - (W.1+1))+0<_;omega
 ·cases γ'.2<;>simp[nu]
 ·simp[nu]
def J.final{W:Nat × Bool}{ls:Nat->Lam}(h:x.J W (min 4 x.N) ls)(f:∀i,i<min 4 x.N->fin (ls i)):W.2=true↔∃i,i<x.N/\x.bad i=true:=by
 obtain⟨p,n,l,j⟩:=h;refine⟨n,λ⟨i,e,g⟩=>?_⟩;have c:∀k,k<min 4 x.N->ls k=.fn:=λk d=>by
  have:=f k d;cases hl:ls k<;>rw[hl] at this<;>first | rfl | exact this.elim
 rcases j 0 (by omega) (c 0 (by omega)) with h | h
 ·exact h
 ·cases hg:W.2 with
  | true=>rfl
  | false=>
   rcases l hg i e (by omega) with b | ⟨k,d,b⟩
   ·rw[g] at b;cases b
   ·rw[c k d] at b;rcases b with b | b<;>cases b
def hSo{l:Lam}:∀S g w c,x.cfg.Stop l S g w->x.cfg.Stop l S { g with offers:=c } w:=by
 rintro S g w c ⟨k,j⟩;refine⟨k,?_⟩;rcases j with⟨d,n,e,r⟩ | ⟨d,f⟩
 ·exact .inl ⟨d,n,e,r⟩
 ·exact .inr ⟨d,λW i h=>f W i h⟩
variable(o:x.Ok){S:Bs}{w:qhy}{Z:Ren}{a:Act}{tm:Array qhC}{wq:qhy}
include o in
theorem Ok.toA{l:Lam}(d:l=.st\/∃i,l=.wk i/\x.bad i=false)(c:x.Cm w)(b:x.Wk S Z a tm wq w) :ql qi8 x.Fz x.cfg.K (x.cfg.Stop l) S (G ((qju 139).at ⟨tm,dn x.Wg⟩ (.code wLB::jw)) [bot]) w :=
 qdC kt (o.t1 b) λ_ h₁=>o.sync1 d (c.rely h₁) (b.rely c h₁)
def toE(c:x.Cm w)(tm:Array qhC)(b:List qm1):ql qi8 x.Fz x.cfg.K (x.cfg.Stop .fn) S (G { (qju 139).at ⟨tm,dn x.Wg⟩ b with mode:=.returning } [bot]) w :=
 qdz kt c.liv.1 (λ_ _ k=>k.1) (λ_ _ h=>⟨h.1,.inl ⟨trivial,h.2⟩⟩) tm b
include o in
theorem Ok.hW:∀l S g w,x.WA l S g w->ql qi8 x.Fz x.cfg.K (x.cfg.Stop l) S g w:=by
 letI:JunkSet:=x.js
 rintro l S g w ⟨d,h⟩;have q:x.A<w.heap.size:=qia (o.ndlt o.nA) d.size;cases l with
 | st=>
  rcases h with⟨rfl,v⟩ | ⟨Z,a,tm,wq,b,rfl⟩
  ·exact q6n kt (o.toA (.inl rfl) d (o.born d v))
  ·exact qdA kt (o.toA (.inl rfl) d (b.set 59 (by omega) (kO _)))
 | ld i=>
  obtain⟨p,Z,a,tm,wq,b,rfl⟩:=h;refine qdB (av:=qhE) kt b.tsz (o.t2 b) (o.t3 b) (λw₁ h₁=>o.cellA (d.rely h₁)) (o.fz o.nA) q p (by have:=o.hN;omega) (λw₁ h₁=>?_);have r:=b.rely d h₁;have f:=(((((((r.set 12 (by omega) (.int .i64 (i+1))).set 13 (by omega) (.int .i64 i)).set 7 (by omega) (.int .i64 i)).set 14 (by omega) (.int .i64 i)).set 15 (by omega) (o.vrA.mono b.le)).set 16 (by omega) (.int .i64 x.N)).set 17 (by omega) (.bool false)).set 18 (by omega) (.bool false);exact o.sync2 p (d.rely h₁) f (by simp[qj2,b.sz]) (by simp[qj2,b.sz])
 | wk i=>
  obtain⟨p,Z,a,tm,wq,b,y,k,rfl⟩:=h;refine qbm kt b.tsz (b.bool k) ?_;have f:=(b.set 19 (by omega) (.bool false)).set 20 (by omega) (.bool false);refine o.walk hSo p d f (by simp[qj2,y]) λF ρ' D u s C j c e=>?_;cases hb:x.bad i with
  | false=>
   rw[hb] at e;exact qdy kt c.tsz (c.bool e) (o.toA (.inr ⟨i,rfl,hb⟩) j c)
  | true=>
   rw[hb] at e;exact qdx kt (λw n=>⟨id,id⟩) c.tsz (o.t3 c) (c.bool e) λw₁ h₁=>o.sync3 p hb (j.rely h₁) (c.rely j h₁)
 | fn=>
  obtain⟨Z,a,tm,wq,b,⟨i,B,z,rfl⟩ | ⟨k,rfl⟩⟩:=h
  ·exact qbn kt b.tsz (o.t2 b) (λw₁ h₁=>o.cellA (d.rely h₁)) (o.fz o.nA) q B z (toE d)
  ·exact qbl kt b.tsz (b.bool k) (toE d)
include o in
theorem Ok.cfg(hAr:∀g w,x.AnchW g w->g.status=.running)(hAn:∀g w,x.AnchW g w->∃m,x.cfg.GM x.cfg.AtW1 m g w)(hFin:∀W ls g w,x.Fin g w->x.J W (min 4 x.N) ls->(∀i,i<min 4 x.N->fin (ls i))->x.DataAt W w->x.cfg.Ph w->E qi8 x.Post (flat x.clA) g w):x.cfg.Ok where
 hn:=by show min 4 x.N<2147483648;omega
 hlo:=o.hlo
 dat:=λW w e h d=>⟨(h _ (.inl rfl)).t d.1,(h _ (.inr rfl)).t d.2⟩
 fzc:=λb c=>⟨c.2,c.1⟩
 syc:=λb c=>by
  have:b∈x.jks:=by rcases c with rfl | rfl<;>simp[jks]
  exact⟨o.sync b this,o.jlt b this⟩
 cla0:=o.cla0
 wgc:=⟨o.sync _ (by simp[Ph4.cfg,jks]),o.jlt _ (by simp[Ph4.cfg,jks]),λh=>h.elim o.ne2 o.ne3⟩
 hW:=o.hW
 hJ0:=hJ0
 hJ:=hJ
 hm:=hm
 hAr:=hAr
 hAn:=hAn
 hFin:=hFin
end
end Ph4
end Go.Proofs.YtidgnkmjgioapaaGreat
end
namespace Go.Proofs.YtidgnkmjgioapaaGreat
section
open Go Go.RowKit Go.Conc Go.ConcN Go.ConcN.Gen Go.Conc.Lib Go.ConcR.Gen Go.Co Go.Sim
def QE{i:Nat->Cl}{A o a:Nat}{wr:Bool}(h:i A=.mine 0)(j:A<a):EvG i a 0 ⟨.cell ⟨A,o,none⟩,wr,Mode.plain == Mode.atomic⟩/\jy ⟨.cell ⟨A,o,none⟩,wr,Mode.plain == Mode.atomic⟩:=by
 refine⟨λx f b g=>?_,by simp[jy],by simp,by simp⟩;have d:x=⟨.cell ⟨A,o,none⟩,wr,.plain⟩:=by
  have e:(Mode.plain == Mode.atomic)=false:=by decide
  rw[e] at f;cases wr<;>(simp[qjy,qkj] at f;exact f.symm)
 subst d;simp only[Go.Co.blk,qj3] at g;subst g;exact⟨j,.inl ⟨h,rfl⟩⟩
def Za{w:qhy}{b o d:Nat}{a:Array qhC}{e:qid}{f:Nat × Nat}{v:qhC}(h:w.heap[b]?=some (.cells a e f))(g:a[o]?=some v):(w.at d).cell? ⟨b,o,none⟩=some v:=q8 (w:=w.at d) h g
structure Nw(w w1:qhy)(B:Nat)(c:Array qhC)(e:qid):Prop where
 eq:w1=w.alloc (.cells c e)
 at_:B=w.heap.size
section
variable{w w1:qhy}{B:Nat}{c:Array qhC}{e:qid}
def nw(w:qhy)(c:Array qhC)(e:qid):∃B w1,Nw w w1 B c e:=⟨_,_,⟨rfl,rfl⟩⟩
def Nw.size(h:Nw w w1 B c e):w1.heap.size=w.heap.size+1:=by rw[h.eq];simp
def Nw.le(h:Nw w w1 B c e):w.heap.size<=w1.heap.size:=by rw[h.size];omega
def Nw.lt(h:Nw w w1 B c e):B<w1.heap.size:=by rw[h.size,h.at_];omega
def Nw.new(h:Nw w w1 B c e):w1.heap[B]?=some (.cells c e (0,0)):=by
 rw[h.eq,h.at_];unfold World.alloc;exact Array.getElem?_push_size
def Nw.old(h:Nw w w1 B c e){b:Nat}(a:b<w.heap.size):w1.heap[b]?=w.heap[b]?:=by
 rw[h.eq];simp only[World.alloc,qm7];rw[if_neg (by omega)]
def Nw.os(h:Nw w w1 B c e):w1.os=w.os:=by rw[h.eq];rfl
def Nw.output(h:Nw w w1 B c e):w1.output=w.output:=by rw[h.eq];rfl
end
def min4(N:Nat):(if(N:Int)<4 then(N:Int) else 4)=((min 4 N:Nat):Int):=by split<;>omega
def qg7(N:Nat)(w:qhy)(P:qi4):(qpe #[3,3] 3 #[.int .i64 4,N]).events P w #[]=#[]:=by
 simp[go_sem,qpe,Builtin.min2]
def q01{P:qi4}{w:qhy}{a:Array qjs}{d:qj5}{b:Option qj5}{l c:Nat}:(Go.store d (.slice b l c)).events P w a=storedEv P w a d (.slice b l c) .plain:=events_store P w a d _ .plain rfl
structure At5(Q:qi4)[JunkSet](M:Nat)(w:qhy)(cl:Nat->Cl)(Z:Ren)(yb pb vb ab:Option qj5)(n yc pn pc vn vc N ac:Nat)(lim:Int)(Y B V A Nx Fd Wg:Nat)(O:Ren)(wq:qhy)(w5:qhy)(cl5:Nat->Cl):Prop where
 wr:WR Q M O wq w5
 ln:M<=O.length
 le:Le Z O
 fr:∀i j,BR O i j->BR Z i j\/w.heap.size<=j
 own:vf cl5 O
 kp:kA M 0 w O w5
 c0:∀b,w5.heap.size<=b->cl5 b=.mine 0
 cold:∀b,b<w.heap.size->cl5 b=cl b
 hY:w5.heap[Y]?=some (.cells #[.slice yb n yc,lim] 91 (0,0))
 hB:w5.heap[B]?=some (.cells #[.slice pb pn pc] 29 (0,0))
 hV:w5.heap[V]?=some (.cells #[.slice vb vn vc] 29 (0,0))
 hA:w5.heap[A]?=some (.cells #[.slice ab N ac] 152 (0,0))
 hNx:w5.heap[Nx]?=some (.cells #[.int .i64 0] 158 (0,0))
 hFd:w5.heap[Fd]?=some (.cells #[.int .u32 0] 161 (0,0))
 hWg:w5.heap[Wg]?=some (.cells #[.int .u64 0,.int .u32 0] 166 (0,0))
 cY:cl5 Y=.mine 0
 cB:cl5 B=.mine 0
 cV:cl5 V=.mine 0
 cA:cl5 A=.mine 0
 cNx:cl5 Nx=.sync
 cFd:cl5 Fd=.sync
 cWg:cl5 Wg=.sync
 l1:w.heap.size<=Nx
 l2:Nx<Fd
 l3:Fd<Wg
noncomputable def x85:qkk:=sqB (sqB (sqB (sqB (sqB (Tryz.f85.body.getD .skip)))))
noncomputable def Qx:qkk:=sqB (sqA x85)
noncomputable def Q8:qkk:=sqB x85
def qfm(i t o q:Option qj5)(n h r s k l N p:Nat)(a:Int)(Y B V A v x u:Nat)(j:Int)(g f d b:qhC):Array qhC :=
 #[.agg #[.slice i n h,a],.slice t r s,.slice o k l,.pointer (some Y),.pointer (some B),.pointer (some V),.bool false,.pointer (some A),.pointer (some v),.pointer (some x),.pointer (some u),.agg #[.slice i n h,a],.slice o k l,.slice q N p,.slice q N p,N,.int .i64 (min 4 N:Nat),j,g,f,d,b,qhE,qhE]
def qgp[JunkSet]{M:Nat}(D:Two Ya qi8)(s3:JunkSet.okf 137){Rc:qhC->qhy->Prop}{yq vq:qhC}{wq:qhy}{Z:Ren}{e6:qhC->qhy->Prop}{p:Nat->Cl}{cs:List qi5}{w:qhy}{yb pb vb:Option qj5}{n yc pn pc vn vc:Nat}{C:Int}(S:∀b,w.heap.size<=b->p b=.mine 0)(n4:M<=Z.length)(hw:WR Ya M Z wq w)(hG:Gl qi8 Z)(m9:vf p Z)(hy:VR Z yq (.agg #[.slice yb n yc,C]))(hv:VR Z vq (.slice vb vn vc))(p3:∀i,¬ JunkSet.jk i)(p4:∀T,qiw Ya 137 #[yq,vq] (wq.tp T) λe u=>∃v,e=.returned v/\Rc v u)(s2:∀v u,Rc v u->∃b N c,v=.slice b N c)(X:∀O b6 v Y B V A Nx Fd Wg W N U w5 q1,Rc v b6->VR O v (.slice W N U)->At5 Ya M w p Z yb pb vb W n yc pn pc vn vc N U C Y B V A Nx Fd Wg O b6 w5 q1 ->EE qi8 e6 q1 (G ((qir 85).at ⟨qfm yb pb vb W n yc pn pc vn vc N U C Y B V A Nx Fd Wg 0 qhE undef undef undef,[]⟩ [.code Qx,.code Q8]) cs) w5) :EE qi8 e6 p (G ((qir 85).at ⟨#[.agg #[.slice yb n yc,C],.slice pb pn pc,.slice vb vn vc]++qj4 21 qhE,[]⟩ [.code (Tryz.f85.body.getD .skip)]) cs) w:=by
 simp only[Qx,Q8,x85,qfm] at X;simp only[qlD,qi0,sqA,sqB,inn] at X ⊢;refine EE.seq ?_;refine EE.region ?_;simp only[qiu,qi3,qi7,qii,qib,qiz,qj9];have⟨Y,w1,a⟩:=nw w #[.slice yb n yc,C] 91;refine EE.op (.pointer (some ⟨Y,0,none⟩)) w1 p rfl rfl (by k_ne) (λd=>by rw[a.eq,a.at_];go_simp;exact⟨rfl,rfl⟩) (λd=>by simp[go_sem]) a.le (λ_ _=>rfl) (λb o=>S b (by have:=a.size;omega)) ?_;walk_nrm;have⟨B,w2,f⟩:=nw w1 #[.slice pb pn pc] 29;refine EE.op (.pointer (some ⟨B,0,none⟩)) w2 p rfl rfl (by k_ne) (λd=>by rw[f.eq,f.at_];go_simp;exact⟨rfl,rfl⟩) (λd=>by simp[go_sem]) f.le (λ_ _=>rfl) (λb o=>S b (by have:=a.size;have:=f.size;omega)) ?_;walk_nrm;have⟨V,q,k⟩:=nw w2 #[.slice vb vn vc] 29;have d5:∀b,q.heap.size<=b->p b=.mine 0:=λb o=>S b (by have:=a.size;have:=f.size;have:=k.size;omega);refine EE.op (.pointer (some ⟨V,0,none⟩)) q p rfl rfl (by k_ne) (λd=>by rw[k.eq,k.at_];go_simp;exact⟨rfl,rfl⟩) (λd=>by simp[go_sem]) k.le (λ_ _=>rfl) d5 ?_;walk_nrm;refine EE.value (.bool false) rfl rfl (by k_ne) (λ_=>by go_simp) (λ_=>by simp[go_sem]) ?_;walk_nrm;refine EE.region_end ?_;refine EE.seq ?_;refine EE.region ?_;simp only[qiu,qi3,qi7,qii,qib,qiz,qj9];have hY:q.heap[Y]?=some (.cells #[.slice yb n yc,C] 91 (0,0)):=by
  rw[k.old (qia a.lt f.le),f.old a.lt];exact a.new
 have hB:q.heap[B]?=some (.cells #[.slice pb pn pc] 29 (0,0)):=by
  rw[k.old f.lt];exact f.new
 have hV:=k.new;have cY:p Y=.mine 0:=S _ (by rw[a.at_];omega);have cB:p B=.mine 0:=S _ (by rw[f.at_];exact a.le);have cV:p V=.mine 0:=S _ (by rw[k.at_];exact qi1 a.le f.le);have sY:Y<q.heap.size:=qia a.lt (qi1 f.le k.le);have sB:B<q.heap.size:=qia f.lt k.le;have sV:V<q.heap.size:=k.lt;have s9:∀d,(q.at d).cell? ⟨Y,0,none⟩=some (.slice yb n yc):=λd=>Za hY rfl;have s8:∀d,(q.at d).cell? ⟨Y,1,none⟩=some (.int .i64 C):=λd=>Za hY rfl;have t3:∀d,(q.at d).cell? ⟨V,0,none⟩=some (.slice vb vn vc):=λd=>Za hV rfl;refine EE.op (.agg #[.slice yb n yc,C]) q p rfl rfl (by k_ne) (λd=>by go_simp) (λd e Q=>by
  simp[go_sem,s9,s8] at Q;rcases Q with rfl | rfl
  ·exact QE cY sY
  ·exact QE cY sY) (qhz _) (λ_ _=>rfl) d5 ?_
 walk_nrm;refine EE.op (.slice vb vn vc) q p rfl rfl (by k_ne) (λd=>by go_simp) (λd e Q=>by
  simp[go_sem,t3] at Q;rw[Q];exact QE cV sV) (qhz _) (λ_ _=>rfl) d5 ?_
 walk_nrm;refine EE.enter rfl rfl (by k_ne) rfl Tryz.func137 (by kernel_rfl) rfl ?_;walk_nrm;have s1:WR Ya M Z wq q:=hw.rely (qi1 a.le (qi1 f.le k.le)) (by rw[k.os,f.os,a.os]) (λi j H _=>by
  have hj:=hw.lt i j H;rw[k.old (qia hj (qi1 a.le f.le)),f.old (qia hj a.le),a.old hj]) (λi j _ h=>absurd h (p3 i))
 have nY:∀i,¬ BR Z i Y:=λi h=>by have:=hw.lt _ _ h;rw[a.at_] at this;omega
 have nB:∀i,¬ BR Z i B:=λi h=>by have:=hw.lt _ _ h;have:=a.le;rw[f.at_] at *;omega
 have nV:∀i,¬ BR Z i V:=λi h=>by have:=hw.lt _ _ h;have:=a.le;have:=f.le;rw[k.at_] at *;omega
 refine EE.call D (R:=Rc) s3 (zh 137 (by decide)) (aq:=#[yq,vq]) (Z:=Z) (wq:=wq) ?_ n4 s1 hG p4 rfl rfl m9 d5 ?_
 ·refine⟨rfl,λi x y hx m6=>?_⟩;have hi:i<2:=by
   have:=(qhB.1 hx).1;simpa using this
  obtain rfl | rfl:i=0\/i=1:=by omega
  ·cases hx;cases m6;exact hy
  ·cases hx;cases m6;exact hv
 intro O b6 v v' w4 p6 m8 g9 n6 c3 h8 p5 l;obtain⟨r4,N,U,rfl⟩:=s2 _ _ p6;obtain⟨W,rfl⟩:∃W,v'=.slice W N U:=by cases m8<;>exact⟨_,rfl⟩
 have fY:∀i,¬ BR O i Y:=λi h=>(c3 i Y h).elim (nY i) (by omega);have fB:∀i,¬ BR O i B:=λi h=>(c3 i B h).elim (nB i) (by omega);have fV:∀i,¬ BR O i V:=λi h=>(c3 i V h).elim (nV i) (by omega);have s7:=(l.old Y sY λi h=>absurd h (fY i)).t hY;have t4:=(l.old B sB λi h=>absurd h (fB i)).t hB;have t2:=(l.old V sV λi h=>absurd h (fV i)).t hV;rw[qkm];walk_nrm;have⟨A,w5,P⟩:=nw w4 #[.slice none 0 0] 152;have k6:∀b,w5.heap.size<=b->p b=.mine 0:=λb o=>p5 b (qi1 P.le o);refine EE.op (.pointer (some ⟨A,0,none⟩)) w5 p rfl rfl (by k_ne) (λd=>by rw[P.eq,P.at_];go_simp;exact⟨rfl,rfl⟩) (λd=>by simp[go_sem]) P.le (λ_ _=>rfl) k6 ?_;walk_nrm;have cA:p A=.mine 0:=p5 _ (by rw[P.at_];omega);have d6:=P.new;have q0:∀d,(w5.at d).cell? ⟨A,0,none⟩=some (.slice none 0 0):=λd=>Za d6 rfl;have p7:∀d,(w5.at d).frozen? ⟨A,0,none⟩=false:=λd=>QC (w:=w5.at d) d6;obtain⟨L,F⟩:∃L,L=w5.setCell ⟨A,0,none⟩ (.slice W N U):=⟨_,rfl⟩;have s6:L.heap.size=w5.heap.size:=by rw[F];simp
 refine EE.store L rfl rfl (by k_ne) (λd=>by rw[F];clear F;go_simp;rfl) (λd e Q=>by
  simp[go_sem] at Q;rw[q01] at Q;simp[storedEv,q0,p7] at Q;rw[Q];exact QE cA (by rw[s6];exact P.lt)) s6 k6 ?_
 walk_nrm;have t5:L.heap[A]?=some (.cells #[.slice W N U] 152 (0,0)):=by
  rw[F,qps _ _ _ _ _ _ d6];simp
 have m5:∀b,b<w4.heap.size->L.heap[b]?=w4.heap[b]?:=λb o=>by
  rw[F,qlt _ _ _ _ (by rw[P.at_];show b≠w4.heap.size;omega)];exact P.old o
 have m4:L.os=w4.os:=by rw[F];exact P.os
 have r7:L.output=w4.output:=by rw[F];exact P.output
 have s5:∀b,L.heap.size<=b->p b=.mine 0:=λb o=>k6 b (by omega);have s4:w4.heap.size<=L.heap.size:=by rw[s6];exact P.le
 have r6:A<L.heap.size:=by rw[s6];exact P.lt
 clear F q0 p7 d6 s6;refine EE.region_end ?_;refine EE.seq ?_;refine EE.region ?_;simp only[qiu,qi3,qi7,qii,qib,qiz,qj9];have⟨Nx,w7,z⟩:=nw L #[.int .i64 0] 158;obtain⟨c7,k5⟩:∃c7:Nat->Cl,c7=λb=>if b=Nx then .sync else p b:=⟨_,rfl⟩;have a7:∀b,b<L.heap.size->c7 b=p b:=λb o=>by rw[k5];simp only;rw[if_neg (by rw[z.at_];omega)]
 have b7:∀b,w7.heap.size<=b->c7 b=.mine 0:=λb o=>by rw[k5];simp only;rw[if_neg (by have:=z.lt;omega)];exact s5 b (qi1 z.le o)
 refine EE.op (.pointer (some ⟨Nx,0,none⟩)) w7 c7 rfl rfl (by k_ne) (λd=>by rw[z.eq,z.at_];go_simp;exact⟨rfl,rfl⟩) (λd=>by simp[go_sem]) z.le a7 b7 ?_;walk_nrm;refine EE.region_end ?_;refine EE.seq ?_;refine EE.region ?_;simp only[qiu,qi3,qi7,qii,qib,qiz,qj9];have⟨Fd,w8,r⟩:=nw w7 #[.int .u32 0] 161;obtain⟨c8,k0⟩:∃c8:Nat->Cl,c8=λb=>if b=Fd then .sync else c7 b:=⟨_,rfl⟩;have a8:∀b,b<w7.heap.size->c8 b=c7 b:=λb o=>by rw[k0];simp only;rw[if_neg (by rw[r.at_];omega)]
 have b8:∀b,w8.heap.size<=b->c8 b=.mine 0:=λb o=>by rw[k0];simp only;rw[if_neg (by have:=r.lt;omega)];exact b7 b (qi1 r.le o)
 refine EE.op (.pointer (some ⟨Fd,0,none⟩)) w8 c8 rfl rfl (by k_ne) (λd=>by rw[r.eq,r.at_];go_simp;exact⟨rfl,rfl⟩) (λd=>by simp[go_sem]) r.le a8 b8 ?_;walk_nrm;refine EE.region_end ?_;refine EE.seq ?_;refine EE.region ?_;simp only[qiu,qi3,qi7,qii,qib,qiz,qj9];have⟨Wg,w9,I⟩:=nw w8 #[.int .u64 0,.int .u32 0] 166;obtain⟨c9,h9⟩:∃c9:Nat->Cl,c9=λb=>if b=Wg then .sync else c8 b:=⟨_,rfl⟩;have a9:∀b,b<w8.heap.size->c9 b=c8 b:=λb o=>by rw[h9];simp only;rw[if_neg (by rw[I.at_];omega)]
 have b9:∀b,w9.heap.size<=b->c9 b=.mine 0:=λb o=>by rw[h9];simp only;rw[if_neg (by have:=I.lt;omega)];exact b8 b (qi1 I.le o)
 refine EE.op (.pointer (some ⟨Wg,0,none⟩)) w9 c9 rfl rfl (by k_ne) (λd=>by rw[I.eq,I.at_];go_simp;exact⟨rfl,rfl⟩) (λd=>by simp[go_sem]) I.le a9 b9 ?_;walk_nrm;have e7:=z.le;have e8:=r.le;have e9:=I.le;have s:∀b,b<w4.heap.size->w9.heap[b]?=w4.heap[b]?:=λb o=>by
  rw[I.old (by omega),r.old (by omega),z.old (by omega)];exact m5 b o
 have g:∀b,b<L.heap.size->c9 b=p b:=λb o=>by rw[a9 b (by omega),a8 b (by omega),a7 b o]
 have p9:w9.heap[A]?=some (.cells #[.slice W N U] 152 (0,0)):=by
  rw[I.old (by omega),r.old (by omega),z.old (by omega)];exact t5
 refine EE.region_end ?_;refine EE.seq ?_;refine EE.seq ?_;refine EE.region ?_;simp only[qiu,qi3,qi7,qii,qib,qiz,qj9];have p8:∀d,(w9.at d).cell? ⟨A,0,none⟩=some (.slice W N U):=λd=>Za p9 rfl;have q2:c9 A=.mine 0:=(g A r6).t cA;have r8:A<w9.heap.size:=by omega
 refine EE.op (.slice W N U) w9 c9 rfl rfl (by k_ne) (λd=>by go_simp) (λd e Q=>by
  simp[go_sem,p8] at Q;rw[Q];exact QE q2 r8) (qhz _) (λ_ _=>rfl) b9 ?_
 walk_nrm;refine EE.value (.int .i64 N) rfl rfl (by k_ne) (λ_=>by go_simp) (λ_=>by simp[go_sem]) ?_;walk_nrm;refine EE.value (.int .i64 (min 4 N:Nat)) rfl rfl (by k_ne) (λ_=>by go_simp;rw[min4]) (λ_=>by simp[go_sem];exact qg7 _ _ _) ?_;walk_nrm;refine EE.value (.int .i64 0) rfl rfl (by k_ne) (λ_=>by go_simp) (λ_=>by simp[go_sem]) ?_;walk_nrm;refine EE.region_end ?_;have f4:∀{b:Nat},b<q.heap.size->b<w4.heap.size:=λh=>qia h l.size;refine X O b6 (.slice r4 N U) Y B V A Nx Fd Wg W N U w9 c9 p6 m8 ⟨?_,qi1 n4 n6.len,n6,λi j H=>(c3 i j H).imp id λh=>qi1 (qi1 a.le (qi1 f.le k.le)) h,?_,⟨?_,?_,?_,?_,λ_ _ _ _=>qix _,qix _⟩,b9,?_,?_,?_,?_,p9,?_,?_,I.new,?_,?_,?_,q2,?_,?_,?_,?_,?_,?_⟩
 ·-- wr
  refine g9.rely (by omega) ?_ (λi j H _=>s j (g9.lt i j H)) (λi j _ h=>absurd h (p3 i));rw[I.os,r.os,z.os,m4]
 ·-- own
  intro i j H;have hj:=g9.lt i j H;rw[g j (by omega)];exact h8 i j H
 ·-- keep
  intro j hj hn;have h1:w.heap.size<=q.heap.size:=qi1 a.le (qi1 f.le k.le);have h2:=l.size;rw[s j (by omega),l.old j (by omega) hn,k.old (qia hj (qi1 a.le f.le)),f.old (qia hj a.le),a.old hj]
 ·rw[I.os,r.os,z.os,m4,l.os,k.os,f.os,a.os]
 ·rw[I.output,r.output,z.output,r7,l.output,k.output,f.output,a.output]
 ·have h1:w.heap.size<=q.heap.size:=qi1 a.le (qi1 f.le k.le);have h2:=l.size;omega
 ·intro b o;have h1:w.heap.size<=q.heap.size:=qi1 a.le (qi1 f.le k.le);have h2:=l.size;exact g b (by omega)
 ·exact(s Y (f4 sY)).t s7
 ·exact(s B (f4 sB)).t t4
 ·exact(s V (f4 sV)).t t2
 ·have:=z.lt;rw[I.old (by omega),r.old (by omega)];exact z.new
 ·have:=r.lt;rw[I.old (by omega)];exact r.new
 ·have:=f4 sY;rw[g Y (by omega)];exact cY
 ·have:=f4 sB;rw[g B (by omega)];exact cB
 ·have:=f4 sV;rw[g V (by omega)];exact cV
 ·have:=z.lt;rw[a9 Nx (by omega),a8 Nx (by omega),k5];simp
 ·have:=r.lt;rw[a9 Fd (by omega),k0];simp
 ·rw[h9];simp
 ·have h1:w.heap.size<=q.heap.size:=qi1 a.le (qi1 f.le k.le);have h2:=l.size;rw[z.at_];omega
 ·have:=z.lt;rw[r.at_];omega
 ·have:=r.lt;rw[I.at_];omega
end
section
open Go Go.RowKit Go.Conc Go.ConcN Go.ConcN.Gen Go.Conc.Lib Go.ConcR.Gen Go.Co Go.Sim
def qfy{U X:Type}{C:Cfg U X}{b:qhD->qhy->Prop}{a m:Nat}{g:qhD}{w:qhy}(h:qnm C.P true (LR C.ty C.Wg) qol (λg w=>C.GM b m g w) a g w):C.GM b (a+m) g w :=
 Cfg.GM.trans (Cfg.GM.of h λ_ _ h=>h)
noncomputable def yO:qkk:=inn (inn Qx)
noncomputable def KP:List qm1:=[.inLoop yO,.inBlock 0,.code Q8]
def q0E(x:Ph4):qhC:=.func (.func 139) #[] (jC x.Wg x.Nx x.A x.Fd x.Y x.V x.B)
def tmx(x:Ph4)(j:Nat)(a b c d e:qhC):Array qhC :=
 #[.agg #[.slice x.yb x.ps.length x.yc,x.lim],x.pv,x.vv,.pointer (some x.Y),.pointer (some x.B),.pointer (some x.V),.bool false,.pointer (some x.A),.pointer (some x.Nx),.pointer (some x.Fd),.pointer (some x.Wg),.agg #[.slice x.yb x.ps.length x.yc,x.lim],x.vv,.slice x.ab x.N x.ac,.slice x.ab x.N x.ac,x.N,.int .i64 (min 4 x.N:Nat),j,a,b,c,d,e,qhE]
def z18(j:Nat):qhC:=if j=0 then qhE else .bool true
def z19(j:Nat):qhC:=if j=0 then qhE else .tuple #[]
def z20(x:Ph4)(j:Nat):qhC:=if j=0 then qhE else q0E x
def z21(j:Nat):qhC:=if j=0 then qhE else .int .i64 j
def qgn(j:Nat):z18 (j+1)=.bool true:=by simp[z18]
def qgm(j:Nat):z19 (j+1)=.tuple #[]:=by simp[z19]
def qgl(x:Ph4)(j:Nat):z20 x (j+1)=q0E x:=by simp[z20]
def qgk(j:Nat):z21 (j+1)=.int .i64 (j+1:Nat):=by simp[z21]
noncomputable def q52(x:Ph4)(cs:List qi5)(j:Nat):qhD:=G ((qir 85).at ⟨tmx x j (z18 j) (z19 j) (z20 x j) (z21 j) qhE,[]⟩ (.code yO::KP)) cs
section
variable{x:Ph4}{cs:List qi5}
def q1j{b:qhD->qhy->Prop}{m:Nat}{j:Nat}(d:j<4)(h:∀w,qkF 166 x.Wg w->x.cfg.GM b m (q52 x cs (j+1)) w)(w:qhy)(a:qkF 166 x.Wg w) :x.cfg.GM b (7+m) (G ((qir 85).at ⟨tmx x j (.bool true) (.tuple #[]) (q0E x) (z21 j) qhE,[]⟩ (.inRegion (qO (sqB (inn (sqA (sqB (sqB yO)))))) []::.inBlock 1::.code (sqB (sqB (sqB yO)))::KP)) cs) w:=by
 refine qfy ?_;simp only[q52,KP,yO,Qx,Q8,x85,qlD,qi0,sqA,sqB,inn,qO,tmx] at h ⊢;have c:IntKind.i64.wrap ((j:Int)+1)=j+1:=qiv _ (by omega);u_c qhF qb a;u_c stepG_inBlock qb a;u_reg qb a;u_op qb a;u_op qb a;u_c qhF qb a;u_c stepG_inLoop qb a;refine qkd (λw₁ h₁=>?_);have e:=h w₁ (qb a h₁);simp only[qgn,qgm,qgl,qgk,Int.natCast_add,Int.cast_ofNat_Int] at e;exact e
noncomputable def qe8(x:Ph4)(cs:List qi5)(j:Nat):qhD:=G ((qir 85).at ⟨tmx x j (.bool true) (.tuple #[]) (z20 x j) (z21 j) qhE,[]⟩ (.inRegion (qO (sqA (inn (sqA (sqB (sqB yO)))))) []::.code (sqB (inn (sqA (sqB (sqB yO)))))::.inBlock 1::.code (sqB (sqB (sqB yO)))::KP)) cs
def qaH{S:qhD->qhy->Prop}{N j:Nat}(c:j<min 4 x.N)(h:∀w,qkF 166 x.Wg w->x.cfg.GM (x.cfg.AtGoS S) N (qe8 x cs j) w)(w:qhy)(a:qkF 166 x.Wg w):x.cfg.GM (x.cfg.AtKdS S) 24 (q52 x cs j) w:=by
 refine Cfg.add_spawn (N:=N) ?_;have b:decide ((j:Int)<((min 4 x.N:Nat):Int))=true:=decide_eq_true (by omega);simp only[qe8,q52,KP,yO,Qx,Q8,x85,qlD,qi0,sqA,sqB,inn,qO,tmx] at h ⊢;u_c qif qb a;u_reg qb a;u_op qb a;u_c qhF qb a;u_c qif qb a;u_cond true qb a;u_c qjr qb a;u_c qif qb a;u_c qod qb a;u_c qif qb a;u_reg qb a;u_in qb a;refine goes_call rfl rfl (by k_ne) rfl K5.f_add (nm_add link) rfl ⟨by u_nil,?_⟩
 walk_nrmf addFn
 exact addPos (L:=link) K5 h _ a
noncomputable def qg1(x:Ph4)(cs:List qi5)(j:Nat):qhD:=G ((qir 85).at ⟨tmx x j (.bool true) (.tuple #[]) (q0E x) (z21 j) qhE,[]⟩ (.inRegion (qO (sqB (inn (sqA (sqB (sqB yO)))))) []::.inBlock 1::.code (sqB (sqB (sqB yO)))::KP)) cs
def qdq{S:qhD->qhy->Prop}{j:Nat}(h:∀w,qkF 166 x.Wg w->S (qg1 x cs j) w)(w:qhy)(e:qkF 166 x.Wg w):x.cfg.GM (x.cfg.AtGoS S) (3+0) (qe8 x cs j) w:=by
 refine Cfg.GM.of (C:=x.cfg) (Stop:=x.cfg.AtGoS S) ?_ (λ_ _ h=>h);simp only[qg1,qe8,KP,yO,Qx,Q8,x85,qlD,qi0,sqA,sqB,inn,qO,tmx] at h ⊢;u_c qhF qb e;u_reg qb e;u_op qb e;refine qkd (λw₁ h₁=>?_);replace e:=qb e h₁;refine⟨rfl,_,born qi8 (q17 x.Wg x.Nx x.A x.Fd x.Y x.V x.B),?_,?_,h _ e⟩
 ·have l:=stepG_spawn (P:=qi8) (main:=true) (w:=w₁) (w':=w₁) (b:=qir 85) (cs:=cs) (i:=1) (rest:=[]) (d:=q17 x.Wg x.Nx x.A x.Fd x.Y x.V x.B) (f:=.func 139) (c:=jC x.Wg x.Nx x.A x.Fd x.Y x.V x.B)
   (ops:=(qO (sqB (inn (sqA (sqB (sqB yO))))))) (o:=(qO (sqB (inn (sqA (sqB (sqB yO))))))[1]'(by simp only[yO,Qx,x85,qlD,qi0,sqA,sqB,inn,qO];decide)) (a:=⟨tmx x j (.bool true) (.tuple #[]) (q0E x) (z21 j) qhE,[]⟩) (k:=.inBlock 1::.code (sqB (sqB (sqB yO)))::KP) (by simp) (by simp only[yO,Qx,x85,qlD,qi0,sqA,sqB,inn,qO];rfl) (by k_ne) (by
    simp only[yO,Qx,x85,qlD,qi0,sqA,sqB,inn,qO,tmx,q0E];go_simp;rfl) rfl
  refine Eq.trans ?_ (l.trans ?_)
  ·simp only[KP,yO,Qx,Q8,x85,qlD,qi0,sqA,sqB,inn,qO,tmx,q0E,jC,pt];rfl
  ·have n:listed qi8 (qir 85).fn ⟨tmx x j (.bool true) (.tuple #[]) (q0E x) (z21 j) qhE,[]⟩ ((qO (sqB (inn (sqA (sqB (sqB yO))))))[1]'(by simp only[yO,Qx,x85,qlD,qi0,sqA,sqB,inn,qO];decide)) w₁=#[]:=by
    unfold listed;have:((ql0 (Act.eval ⟨tmx x j (.bool true) (.tuple #[]) (q0E x) (z21 j) qhE,[]⟩) ((qO (sqB (inn (sqA (sqB (sqB yO))))))[1]'(by simp only[yO,Qx,x85,qlD,qi0,sqA,sqB,inn,qO];decide))).events qi8 w₁ #[])=#[]:=by
     simp only[yO,Qx,x85,qlD,qi0,sqA,sqB,inn,qO,tmx,q0E];simp[go_sem]
    rw[this,seen_none]
   rw[n];simp only[KP,yO,Qx,Q8,x85,qlD,qi0,sqA,sqB,inn,qO,tmx];rfl
 ·rintro g ⟨W,p⟩;exact⟨⟨⟨e,W,p⟩,g.fz,g.size,g.os⟩,.inl ⟨rfl,λ_ h=>h⟩⟩
noncomputable def q70(x:Ph4):qi5:=(qir 85).at ⟨tmx x (min 4 x.N) (.bool false) (z19 (min 4 x.N)) (z20 x (min 4 x.N)) (z21 (min 4 x.N)) qhE,[]⟩ [.inRegion (qO (sqA Q8)) [0],.code (sqB Q8)]
noncomputable def qeg(x:Ph4):qi5:=(qir 85).at ⟨tmx x (min 4 x.N) (.bool false) (z19 (min 4 x.N)) (z20 x (min 4 x.N)) (z21 (min 4 x.N)) (.tuple #[]),[]⟩ [.inRegion (qO (sqA Q8)) [],.code (sqB Q8)]
def F0(x:Ph4)(cs:List qi5)(g:qhD)(w:qhy):Prop:=g=G (qeg x) cs/\qkF 166 x.Wg w
def q1i(e:x.AnchW=Jt link x.Wg (q70 x) cs)(w:qhy)(a:qkF 166 x.Wg w):x.cfg.GM x.cfg.AtKd 13 (q52 x cs (min 4 x.N)) w:=by
 refine Cfg.kd_of ?_;have b:decide (((min 4 x.N:Nat):Int)<((min 4 x.N:Nat):Int))=false:=decide_eq_false (by omega);have c:x.cfg.AnchW=Jt link x.Wg (q70 x) cs:=e;rw[c];generalize d:min 4 x.N=n at b;simp only[q70,q52,KP,yO,Qx,Q8,x85,qlD,qi0,sqA,sqB,inn,qO,tmx,d];u_c qif qb a;u_reg qb a;u_op qb a;u_c qhF qb a;u_c qif qb a;u_cond false qb a;u_exit qb a;u_c qif qb a;u_reg qb a;u_in qb a;refine goes_call rfl rfl (by k_ne) rfl K5.f_wait (nm_wait link) rfl ⟨by u_nil,?_⟩
 walk_nrmf waitFn
 exact Go.Co.waitStart (L:=link) K5 _ a
def qfw(d:x.AnchW=Jt link x.Wg (q70 x) cs):∀r j,j+r=min 4 x.N->(∀w,qkF 166 x.Wg w->x.cfg.Spawns r (q52 x cs j) w)/\(0<j->∀w,qkF 166 x.Wg w->x.cfg.Spawns r (qg1 x cs (j - 1)) w):=by
 intro r;induction r with
 | zero=>
  intro j h;have e:j=min 4 x.N:=by omega
  subst e;refine⟨λw a=>⟨13,q1i d w a⟩,λg w a=>⟨7+13,?_⟩⟩;have e:min 4 x.N - 1+1=min 4 x.N:=by omega
  exact q1j (j:=min 4 x.N - 1) (by omega) (λw a=>by rw[e];exact q1i d w a) w a
 | succ r f=>
  intro j h;have b:=(f (j+1) (by omega)).2 (by omega);rw[Nat.add_sub_cancel] at b;have c:∀w,qkF 166 x.Wg w->x.cfg.GM (x.cfg.AtKdS (x.cfg.Spawns r)) 24 (q52 x cs j) w:=qaH (N:=3+0) (by omega) (qdq b);refine⟨λw a=>⟨24,c w a⟩,λg w a=>⟨7+24,?_⟩⟩;obtain⟨k,rfl⟩:∃k,j=k+1:=⟨j - 1,by omega⟩;exact q1j (by omega) c w a
def qd4(a:x.AnchW=Jt link x.Wg (q70 x) cs)(g:qhD)(w:qhy)(h:x.AnchW g w):g.status=.running:=by
 rw[a] at h;obtain⟨T,rfl,_⟩:=h;rfl
def qeB(b:x.AnchW=Jt link x.Wg (q70 x) cs)(a:x.Fin=λg w=>qnm qi8 true (LR 166 x.Wg) qol (F0 x cs) 40 g w)(g:qhD)(w:qhy)(h:x.AnchW g w):∃m,x.cfg.GM x.cfg.AtW1 m g w:=by
 rw[b] at h;have f:=Go.Co.waitRound (L:=link) (Fin:=F0 x cs) K5 (b₀:=qir 85) (a₀:=⟨tmx x (min 4 x.N) (.bool false) (z19 (min 4 x.N)) (z20 x (min 4 x.N)) (z21 (min 4 x.N)) qhE,[]⟩) (ops₀:=qO (sqA Q8)) (i₀:=0) (rest₀:=[]) (k₀:=[.code (sqB Q8)]) (cs:=cs) ?_ g w h
 ·refine⟨30,Cfg.GM.of f λg w hm=>?_⟩;refine Cfg.w1_of (C:=x.cfg) (F0:=F0 x cs) (λg w d=>?_) ?_
  ·show x.Fin g w;rw[a];exact d
  ·have e:x.cfg.AnchW=x.AnchW:=rfl;rw[e,b];exact hm
 ·intro w c;refine⟨?_,c⟩;simp only[qeg,Q8,x85,qlD,qi0,sqA,sqB,inn,qO,tmx];rfl
end
end
end Go.Proofs.YtidgnkmjgioapaaGreat
section
namespace Go.Co
open Go.Conc Go.ConcN Go.Sim
section
variable{P:qi4}{Post:qhC->qhy->Prop}{cl:Nat->Cl}{w:qhy}
def EE.of_goes{R:qhy->qhy->Prop}(c:∀w d,R w (w.at d)){b:qhD->qhy->Prop}(f:∀g d,b g (w.at d)->EE P Post cl g w):∀{n:Nat} {g:qhD} {d:Nat},qnm P true R qol b n g (w.at d)->EE P Post cl g w:=by
 intro n;induction n with
 | zero=>exact λ{g d} h=>f g d (h _ (c _ _))
 | succ n i=>
  intro g d h;rcases h with h | ⟨k,h⟩
  ·exact f g d (h _ (c _ _))
  ·refine λs=>E.step k λa=>?_;have⟨l,q,r,e,⟨p,o⟩,j⟩:=goes_elim (h (w.at a) (c (w.at d) a));subst p;subst o;exact⟨l,w.at a,#[],e,qhz _,by simp,i j a⟩
def EE.enterB{b:qi5}{a:Act}{k:List qm1}{cs:List qi5}{d:Array qjx}{i:Nat}{e:List Nat}{o:qjx}{f:qjf}{g:Func}{c:qkk}{args:Array qj0}{l:Array qid}(p:d[i]?=some o)(n:qiy o (qjG d a.tmps)=true)(q:b.kind≠.early)(j:o.op=.call { callee:=.value (.func f),args,argTypes:=l })(hf:P.funcs[f]?=some g)(hname:(g.name == "runtime.NumGoroutine")=false)(hb:g.body=some c)(h:EE P Post cl (G ((base f).at { tmps:=args.map a.eval++qj4 (g.ntmps - (args.map a.eval).size) qhE,defers:=[] } [.code c]) (b.at a (.inRegion d (i::e)::k)::cs)) w) :EE P Post cl (G (b.at a (.inRegion d (i::e)::k)) cs) w :=
 EE.enter p n q j hf hname (by rw[hb];rfl) (by rw[enter_at _ hf hb];exact h)
def qcq{A o a:Nat}(h:cl A=.sync)(f:A<a):EvG cl a 0 ⟨.cell ⟨A,o,none⟩,false,true⟩/\jy ⟨.cell ⟨A,o,none⟩,false,true⟩:=by
 refine⟨λx d b e=>?_,by simp[jy],by simp,by simp⟩;have c:x=⟨.cell ⟨A,o,none⟩,false,.atomic⟩:=by simp[qjy,qkj] at d;exact d.symm
 subst c;simp only[blk,qj3] at e;subst e;exact⟨f,.inr (.inr ⟨h,by simp,by simp⟩)⟩
end
end Go.Co
namespace Go.Proofs.YtidgnkmjgioapaaGreat
open Go Go.RowKit Go.Conc Go.ConcN Go.ConcN.Gen Go.Conc.Lib Go.ConcR.Gen Go.Co Go.Sim
section
variable{x:Ph4}{cs:List qi5}
def after{Post:qhC->qhy->Prop}{cl:Nat->Cl}{w:qhy}{v:Bool}(f:w.heap[x.Fd]?=some (.cells #[.int .u32 (if v then 1 else 0)] 161 (0,0)))(i:cl x.Fd=.sync)(j:∀b,w.heap.size<=b->cl b=.mine 0)(c:∀t g,t.getD 6 qhE=.bool v->EE qi8 Post cl (G { (qir 85).at ⟨t,[]⟩ g with mode:=.returning } cs) w):EE qi8 Post cl (G (qeg x) cs) w:=by
 have h:x.Fd<w.heap.size:=(qhB.1 f).1;have a:∀d,(w.at d).cell? x.Fd=some (.int .u32 (if v then 1 else 0)):=λd=>Za f rfl;generalize l:min 4 x.N=n;simp only[qeg,Q8,x85,qlD,qi0,sqA,sqB,inn,qO,tmx,l];refine EE.region_end ?_;refine EE.seq ?_;refine EE.region ?_;simp only[qiu,qi3,qi7,qii,qib,qiz,qj9];refine EE.enterB rfl rfl (by k_ne) rfl qor (by kernel_rfl) rfl ?_
 walk_nrmf qof
 refine EE.seq ?_;refine EE.region ?_;simp only[qiu,qi3,qi7,qii,qib,qiz,qj9];refine EE.value (.bool false) rfl rfl (by k_ne) (λ_=>by go_simp) (λ_=>by simp[go_sem]) ?_;walk_nrm;refine EE.region_end ?_;refine EE.seq ?_;refine EE.region ?_;simp only[qiu,qi3,qi7,qii,qib,qiz,qj9];refine EE.value (.pointer (some x.Fd)) rfl rfl (by k_ne) (λ_=>by go_simp) (λ_=>by simp[go_sem]) ?_;walk_nrm;refine EE.value (.pointer (some x.Fd)) rfl rfl (by k_ne) (λ_=>by go_simp) (λ_=>by simp[go_sem]) ?_;walk_nrm;refine EE.value (.pointer (some x.Fd)) rfl rfl (by k_ne) (λ_=>by go_simp) (λ_=>by simp[go_sem]) ?_;walk_nrm;refine EE.raw w cl rfl (λd=>⟨_,qmu rfl rfl (by k_ne) rfl Tryz.func180 (by kernel_rfl) (by kernel_rfl) (by kernel_rfl) .u32 (by kernel_rfl) rfl (a d),?_⟩) (qhz _) (λ_ _=>rfl) j ?_
 ·intro e k;simp at k;subst k;exact qcq i h
 walk_nrm;clear a f;cases v with
 | false=>
  simp only[if_false,qiC];refine EE.value (.bool false) rfl rfl (by k_ne) (λ_=>by go_simp) (λ_=>by simp[go_sem]) ?_;walk_nrm;refine EE.value (.bool false) rfl rfl (by k_ne) (λ_=>by go_simp) (λ_=>by simp[go_sem]) ?_;walk_nrm;refine EE.region_end ?_;refine EE.retS ?_;refine EE.leave1 rfl rfl qor rfl ?_;walk_nrm;refine EE.value (.bool false) rfl rfl (by k_ne) (λ_=>by go_simp) (λ_=>by simp[go_sem]) ?_;walk_nrm;refine EE.region_end ?_;refine EE.retS ?_;exact c _ _ rfl
 | true=>
  simp only[if_true];refine EE.value (.bool true) rfl rfl (by k_ne) (λ_=>by go_simp) (λ_=>by simp[go_sem]) ?_;walk_nrm;refine EE.value (.bool true) rfl rfl (by k_ne) (λ_=>by go_simp) (λ_=>by simp[go_sem]) ?_;walk_nrm;refine EE.region_end ?_;refine EE.retS ?_;refine EE.leave1 rfl rfl qor rfl ?_;walk_nrm;refine EE.value (.bool true) rfl rfl (by k_ne) (λ_=>by go_simp) (λ_=>by simp[go_sem]) ?_;walk_nrm;refine EE.region_end ?_;refine EE.retS ?_;exact c _ _ rfl
end
end Go.Proofs.YtidgnkmjgioapaaGreat
end
section
namespace Go.Proofs.YtidgnkmjgioapaaGreat
open Go Go.RowKit Go.Conc Go.ConcN Go.ConcN.Gen Go.Conc.Lib Go.ConcR.Gen Go.Co Go.Sim
namespace Ph4
noncomputable def on(x:Ph4)(a:List qi5):Ph4:={ x with Fin:=λg w=>qnm qi8 true (LR 166 x.Wg) qol (F0 x a) 40 g w,AnchW:=Jt link x.Wg (q70 x) a }
def qh2{a:qid}{e:Nat}(w:qhy)(d:Nat):LR a e w (w.at d):=λ⟨b,c,h⟩=>⟨b,c,h⟩
def all{x:Ph4}{cs:List qi5}(o:(x.on cs).Ok)(c:∀t a w (v:Bool),(v=true↔∃i,i<x.N/\x.bad i=true)->(x.on cs).cfg.Ph w->t.getD 6 qhE=.bool v->EE qi8 x.Post (flat x.clA) (G { (qir 85).at ⟨t,[]⟩ a with mode:=.returning } cs) w):(x.on cs).cfg.Ok :=
 o.cfg (qd4 (cs:=cs) rfl) (qeB (cs:=cs) rfl rfl) λW ls g w p hJ k l f=>by
  have e:qnm qi8 true (LR 166 x.Wg) qol (F0 x cs) 40 g (w.at w.drawn):=p;refine(EE.of_goes (λw d=>qh2 w d) (λg d j=>?_) e) w.drawn;obtain⟨rfl,_⟩:=j;refine after (v:=W.2) l.2 ?_ (λb n=>?_) λt a h=>c t a w W.2 (J.final hJ k) f h
  ·have:=o.sync x.Fd (by simp[jks,on]);unfold flat;rw[show(x.on cs).clA x.Fd=.sync from this]
  ·have:=o.cla0 b (qi1 f.size n);unfold flat;rw[show(x.on cs).clA b=.mine 0 from this]
end Ph4
def q2B(n a:Nat)(d:Nat->Cl)(b:Nat):Cl:=match d b with | .mine 0=>if b<n then .ro a else .mine 0 | c=>c
def YU{n a b:Nat}{c:Nat->Cl}(h:c b=.mine 0)(d:b<n):q2B n a c b=.ro a:=by unfold q2B;rw[h];simp[d]
def Kw{n c b:Nat}{a:Nat->Cl}(h:a b=.mine 0)(d:n<=b):q2B n c a b=.mine 0:=by unfold q2B;rw[h];simp;omega
def YT{n d b:Nat}{a:Nat->Cl}(h:a b≠.mine 0):q2B n d a b=a b:=by
 unfold q2B;cases hc:a b with
 | mine g=>
  cases g with
  | zero=>exact absurd hc h
  | succ g=>rfl
 | ro c=>rfl
 | sync=>rfl
def xJ(Y V B A:Nat)(a:List Nat):List Nat:=0::Y::V::B::A::a
def qgA{M:Nat}{Post:qhC->qhy->Prop}[JunkSet]{w0:qhy}{d8:Nat->Cl}{ρ0:Ren}{yb R Q ab:Option qj5}{ps:List Par}{yc pn pc vn vc N ac:Nat}{lim:Int}{Y B V A Nx Fd Wg:Nat}{O:Ren}{wq:qhy}{w:qhy}{D:Nat->Cl}{cs:List qi5}{l wl:List Int}{c:Nat->Nat->Int}{s:List Nat}(j:At5 Ya M w0 d8 ρ0 yb R Q ab ps.length yc pn pc vn vc N ac lim Y B V A Nx Fd Wg O wq w D)(a9:∀b∈s,D b=.mine 0/\∃cs e f,w.heap[b]?=some (.cells cs e f)/\∀(i:Nat) v,cs[i]?=some v->∃k m,v=.int k m)(h0:∃cs e f,w.heap[0]?=some (.cells cs e f)/\∀(i:Nat) v,cs[i]?=some v->∃k m,v=.int k m)(d6:D 0=.mine 0)(T:∀a,yb=some a->a.block∈s)(Z:∀a,R=some a->a.block∈s)(W:∀a,Q=some a->a.block∈s)(b0:∀a,ab=some a->a.block∈s)(pars:qn 0 w.heap.size w (.slice yb ps.length yc) ps)(ints:qd 0 w.heap.size w (.slice Q vn vc) wl)(intp:qd 0 w.heap.size w (.slice R pn pc) l)(cas:vC 0 w.heap.size w (.slice ab N ac) N c)(n5:ps.length<=5)(bmn:∀i,0<=pre Par.mn ps ps.length i/\pre Par.mn ps ps.length i<=1000)(bmx:∀i,0<=pre Par.mx ps ps.length i/\pre Par.mx ps ps.length i<=1000)(bc:∀i d,0<=c i d/\c i d<=1000)(hl:∀y∈l,0<=y/\y<ps.length)(ll:l.length<=1000)(hwl:∀y∈wl,0<=y/\y<5)(hN:N<=900000)(a8:∀t F L cl6 (v:Bool),(v=true↔∃i,i<N/\(qw ps (ovr (c i) (pre Par.mn ps ps.length) wl wl.length) l && !qw ps (ovr (c i) (pre Par.mx ps ps.length) wl wl.length) l)=true)->(∀b,b<w.heap.size->D b=.mine 0->L.heap[b]?=w.heap[b]?)->w.heap.size<=L.heap.size->L.os=w.os->L.output=w.output ->(∀b,D b=.mine 0->cl6 b=.mine 0)->(∀b,L.heap.size<=b->cl6 b=.mine 0)->t.getD 6 qhE=.bool v->EE qi8 Post cl6 (G { (qir 85).at ⟨t,[]⟩ F with mode:=.returning } cs) L) :EE qi8 Post D (G ((qir 85).at ⟨qfm yb R Q ab ps.length yc pn pc vn vc N ac lim Y B V A Nx Fd Wg 0 qhE undef undef undef,[]⟩ [.code Qx,.code Q8]) cs) w:=by
 have e1:Qx=.block 0 (.loop yO):=by kernel_rfl
 rw[e1];refine EE.block ?_;refine EE.loop ?_;intro d;refine E.crowd (U:=Nat × Bool) (X:=Lam) λlo hlo=>?_
 let x:Ph4:={ W1:=w.at d,clA:=q2B w.heap.size lo D,lo:=lo,Wg:=Wg,Nx:=Nx,A:=A,Fd:=Fd,Y:=Y,V:=V,B:=B,ps:=ps,lim:=lim,l:=l,wl:=wl,N:=N,c:=c,yb:=yb,yc:=yc,ab:=ab,ac:=ac,pv:=.slice R pn pc,vv:=.slice Q vn vc,nds:=xJ Y V B A s,Post:=Post,Fin:=λ_ _=>False,AnchW:=λ_ _=>False }
 have qz:∀{b:Nat} {o:Obj},w.heap[b]?=some o->b<w.heap.size:=λh=>(qhB.1 h).1;have P:∀b∈xJ Y V B A s,D b=.mine 0/\b<w.heap.size:=by
  intro b n;simp only[xJ,qjB] at n;obtain⟨d7,e0,f0,h0,a7⟩:=h0;rcases n with rfl | rfl | rfl | rfl | rfl | n
  ·exact⟨d6,qz h0⟩
  ·exact⟨j.cY,qz j.hY⟩
  ·exact⟨j.cV,qz j.hV⟩
  ·exact⟨j.cB,qz j.hB⟩
  ·exact⟨j.cA,qz j.hA⟩
  ·have⟨k1,cs,e,f,k2,_⟩:=a9 b n;exact⟨k1,qz k2⟩
 have b6:∀b∈xJ Y V B A s,x.clA b=.ro lo:=λb n=>YU (P b n).1 (P b n).2;have S:∀b∈[Wg,Nx,Fd],D b=.sync/\b<w.heap.size:=by
  intro b n;simp only[qjB,qk5,or_false] at n;rcases n with rfl | rfl | rfl
  ·exact⟨j.cWg,qz j.hWg⟩
  ·exact⟨j.cNx,qz j.hNx⟩
  ·exact⟨j.cFd,qz j.hFd⟩
 have p:∀{a:qj5},a.block∈s->a.block∈xJ Y V B A s:=λh=>by simp[xJ,h]
 have e4:∀b∈xJ Y V B A s,BR x.r0 b b:=λb n=>Yw.2 ⟨(P b n).2,rfl,.inl n⟩;have H:∀(q:Option qj5) (m k:Nat),(∀a,q=some a->a.block∈s)->@VR x.js x.r0 (.slice q m k) (.slice q m k):=λq m k hq=>by
  cases q with
  | none=>exact @VR.sliceNil x.js _ m k
  | some a=>exact @VR.slice x.js _ _ _ a.off a.spot m k (e4 _ (p (hq a rfl)))
 have one:∀(v:qhC),@VR x.js x.r0 v v->∀(i:Nat) (u:qhC),(#[v]:Array qhC)[i]?=some u->@VR x.js x.r0 u u:=λv z i u hu=>by
  cases i with
  | zero=>simp at hu;rw[<- hu];exact z
  | succ i=>simp at hu
 have o:(x.on cs).Ok:={
  hlo:=hlo
  hY:=j.hY
  hV:=j.hV
  hB:=j.hB
  hA:=j.hA
  pars:=pars
  ints:=ints
  intp:=intp
  cas:=cas
  n5:=n5
  bmn:=bmn
  bmx:=bmx
  bc:=bc
  hl:=hl
  ll:=ll
  hwl:=hwl
  hN:=hN
  jlt:=λb n=>(S b n).2
  ne1:=by have:=j.l2;show Nx≠Fd;omega
  ne2:=by have:=j.l2;have:=j.l3;show Wg≠Nx;omega
  ne3:=by have:=j.l3;show Wg≠Fd;omega
  sync:=λb n=>by
   have h1:=(S b n).1;exact(YT (by rw[h1];simp)).t h1
  nro:=b6
  nok:=by
   intro b n;have r:b∈xJ Y V B A s:=n;simp only[xJ,qjB] at r;obtain⟨d7,e0,f0,h0,a7⟩:=h0;rcases r with rfl | rfl | rfl | rfl | rfl | r
   ·exact⟨_,_,_,h0,λi v z=>by obtain⟨k,m,rfl⟩:=a7 i v z;exact @VR.int (x.on cs).js _ k m⟩
   ·refine⟨_,_,_,j.hY,λi v z=>?_⟩;have hi:i=0\/i=1:=by
     have:=(qhB.1 z).1;simp at this;omega
    rcases hi with rfl | rfl
    ·simp at z;rw[<- z];exact H _ _ _ T
    ·simp at z;rw[<- z];exact @VR.int x.js _ _ _
   ·exact⟨_,_,_,j.hV,one _ (H _ _ _ W)⟩
   ·exact⟨_,_,_,j.hB,one _ (H _ _ _ Z)⟩
   ·exact⟨_,_,_,j.hA,one _ (H _ _ _ b0)⟩
   ·have⟨k1,cs1,e,f,k2,k3⟩:=a9 b r;refine⟨_,_,_,k2,λi v z=>?_⟩;obtain⟨k,m,rfl⟩:=k3 i v z;exact @VR.int x.js _ _ _
  n0:=by show 0∈xJ Y V B A s;simp[xJ]
  nY:=by show Y∈xJ Y V B A s;simp[xJ]
  nV:=by show V∈xJ Y V B A s;simp[xJ]
  nB:=by show B∈xJ Y V B A s;simp[xJ]
  nA:=by show A∈xJ Y V B A s;simp[xJ]
  nyb:=λq oo n' c' e _=>by cases e;exact p (a:=⟨q,oo,none⟩) (T _ rfl)
  nvv:=λq oo n' c' e _=>by cases e;exact p (a:=⟨q,oo,none⟩) (W _ rfl)
  npv:=λq oo n' c' e _=>by cases e;exact p (a:=⟨q,oo,none⟩) (Z _ rfl)
  nab:=λq oo n' c' e _=>by cases e;exact p (a:=⟨q,oo,none⟩) (b0 _ rfl)
  cla0:=λb n=>by
   have r:w.heap.size<=b:=n;exact Kw (j.c0 b r) r }
 refine⟨(x.on cs).cfg,rfl,rfl,rfl,rfl,Ph4.all o ?_,λb n=>?_,?_,j.hWg,(0,false),λ_=>.st,⟨j.hNx,j.hFd⟩,?_⟩
 ·intro t F L v z hp ht;refine a8 t F L _ v z (λb n I=>?_) hp.size hp.os hp.output (λb n=>?_) (λb n=>?_) ht
  ·exact hp.fz b ⟨n,YU I n⟩
  ·show flat (q2B w.heap.size lo D) b=_;unfold flat;rcases qk2 b w.heap.size with C | C
   ·rw[YU n C]
   ·rw[Kw n C]
  ·show flat (q2B w.heap.size lo D) b=_;have C:w.heap.size<=b:=qi1 hp.size n;unfold flat;rw[Kw (j.c0 b C) C]
 ·have r:b<w.heap.size:=n;cases I:D b with
  | mine g=>
   cases g with
   | zero=>exact .inr ⟨rfl,YU I r⟩
   | succ g=>exact .inl ((YT (by rw[I];simp)).t I)
  | ro e8=>exact .inl ((YT (by rw[I];simp)).t I)
  | sync=>exact .inl ((YT (by rw[I];simp)).t I)
 ·have d5:=(qfw (x:=x.on cs) (cs:=cs) rfl (min 4 N) 0 (by show 0+min 4 N=min 4 N;omega)).1 (w.at d) ⟨_,_,j.hWg⟩;exact d5
 ·exact⟨qix _,λh=>(by cases h),λ_ i _ h=>absurd h (Nat.not_lt_zero i),λk hk=>absurd hk (Nat.not_lt_zero k)⟩
end Go.Proofs.YtidgnkmjgioapaaGreat
end
namespace Go.Proofs.YtidgnkmjgioapaaGreat
section
open Go Go.RowKit Go.Conc Go.ConcN Go.ConcN.Gen Go.Conc.Lib Go.ConcR.Gen Go.Co Go.Sim
def qZ(w:qhy)(B:Nat):Prop:=∃a e f,w.heap[B]?=some (.cells a e f)/\∀(i:Nat) v,a[i]?=some v->∃k m,v=.int k m
def qU(w:qhy)(v:qhC):Prop:=∀a n c,v=.slice (some a) n c->qZ w a.block
section
variable[JunkSet]{Q:qi4}{Z:Ren}{wq w:qhy}{M:Nat}
def qe6{b a:Array qhC}(h:AsR Z b a)(g:∀(i:Nat) v,b[i]?=some v->∃k m,v=.int k m):a=b:=by
 refine Array.ext h.1.symm λi j d=>?_;have⟨k,m,e⟩:=g i b[i] (qip d);have c:=h.2 i _ _ (qip d) (qip j);rw[e] at c ⊢;generalize a[i]=y at c;cases c;rfl
def qao(g:WR Q M Z wq w)(a:∀i,¬ JunkSet.jk i){i j:Nat}(b:BR Z i j){c:Array qhC}{e:qid}{f:Nat × Nat}(h:wq.heap[i]?=some (.cells c e f))(l:∀(i:Nat) v,c[i]?=some v->∃k m,v=.int k m):∃q,w.heap[j]?=some (.cells c e q):=by
 rcases g.obj i j _ b h with⟨p,_⟩ | ⟨_,r,d,o⟩
 ·exact absurd p (a i)
 ·cases o with
  | cells e n _=>
   rw[qe6 n l] at d;exact⟨_,d⟩
def qam(d:WR Q M Z wq w)(a:∀i,¬ JunkSet.jk i){i j:Nat}(b:BR Z i j)(h:qZ wq i):qZ w j:=by
 obtain⟨n,e,f,k,c⟩:=h;have⟨l,g⟩:=qao d a b k c;exact⟨n,e,l,g,c⟩
def q61(l:WR Q M Z wq w)(a:∀i,¬ JunkSet.jk i){i j:Nat}(b:BR Z i j)(n:qZ wq i){k:Array qhC}{e:qid}{f:Nat × Nat}(h:wq.heap[i]?=some (.cells k e f)):∃c,w.heap[j]?=some (.cells k e c)/\j<w.heap.size:=by
 obtain⟨p,q,f1,g,o⟩:=n;rw[h] at g;cases g;have⟨c,d⟩:=qao l a b h o;exact⟨c,d,(qhB.1 d).1⟩
def q7o(t:WR Q M Z wq w)(d:∀i,¬ JunkSet.jk i){s x:Nat}{v k:qhC}{l:List Int}(h:qd s x wq v l)(y:qU wq v)(u:VR Z v k):qd 0 w.heap.size w k l:=by
 obtain⟨base,b,rfl,q,p⟩:=h;cases u with
 | sliceNil=>exact⟨none,b,rfl,q,λa=>by have⟨B,o,r,F,e,_⟩:=p a;cases e⟩
 | @slice i j c n _ _ g=>
  refine⟨_,b,rfl,q,λa=>?_⟩;have⟨B,o,r,F,e,_,_,D,C⟩:=p a;cases e;have⟨G,A,z⟩:=q61 t d g (y _ _ _ rfl) D;exact⟨j,c,r,G,rfl,qix _,z,A,C⟩
def qdj(t:WR Q M Z wq w)(d:∀i,¬ JunkSet.jk i){s x:Nat}{v k:qhC}{l:List Par}(h:qn s x wq v l)(y:qU wq v)(u:VR Z v k):qn 0 w.heap.size w k l:=by
 obtain⟨base,b,rfl,q,p⟩:=h;cases u with
 | sliceNil=>exact⟨none,b,rfl,q,λa=>by have⟨B,o,r,F,e,_⟩:=p a;cases e⟩
 | @slice i j c n _ _ g=>
  refine⟨_,b,rfl,q,λa=>?_⟩;have⟨B,o,r,F,e,_,_,D,C⟩:=p a;cases e;have⟨G,A,z⟩:=q61 t d g (y _ _ _ rfl) D;exact⟨j,c,r,G,rfl,qix _,z,A,C⟩
def qan(x:WR Q M Z wq w)(g:∀i,¬ JunkSet.jk i){u z:Nat}{v l:qhC}{n:Nat}{c:Nat->Nat->Int}(h:vC u z wq v n c)(A:qU wq v)(y:VR Z v l):vC 0 w.heap.size w l n c:=by
 obtain⟨base,b,rfl,s,r⟩:=h;cases y with
 | sliceNil=>exact⟨none,b,rfl,s,λa=>by have⟨B,o,t,p,H,e,_⟩:=r a;cases e⟩
 | @slice i j d q _ _ k=>
  refine⟨_,b,rfl,s,λa=>?_⟩;have⟨B,o,t,p,H,e,_,_,G,F⟩:=r a;cases e;have⟨I,D,C⟩:=q61 x g k (A _ _ _ rfl) G;exact⟨j,d,t,p,I,rfl,qix _,C,D,F⟩
def YP{h:Nat->Cl}(k:WR Q M Z wq w)(d:∀i,¬ JunkSet.jk i)(o:vf h Z){q g:Option qj5}{n c:Nat}(p:qU wq (.slice g n c))(l:VR Z (.slice g n c) (.slice q n c)):∀b,q=some b->h b.block=.mine 0/\qZ w b.block:=by
 rintro b rfl;cases l with
 | slice j e _ _ a=>exact⟨o _ _ a,qam k d a (p _ _ _ rfl)⟩
def qah{v:qhC}(h:VR Z qhE v):v=qhE:=by
 unfold qhE at h;cases h with
 | tuple a _=>
  have:=qmG (by simpa using a.symm);rw[this];rfl
def qgf{q:Option qj5}{n c:Nat}{m:Int}{y:qhC}(h:VR Z (.agg #[.slice q n c,m]) y):∃a,y=.agg #[.slice a n c,m]/\VR Z (.slice q n c) (.slice a n c):=by
 cases h with
 | @agg _ b k e=>
  have l:b.size=2:=by simpa using k.symm
  have d:=e 0 (.slice q n c) _ rfl (qip (by omega));have g:=e 1 (.int .i64 m) _ rfl (qip (by omega));obtain⟨a,j⟩:∃a,b[0]'(by omega)=.slice a n c:=by
   generalize b[0]'(by omega)=z at d;cases d<;>exact⟨_,rfl⟩
  have o:b[1]'(by omega)=.int .i64 m:=by
   generalize b[1]'(by omega)=z at g;cases g;rfl
  rw[j] at d;refine⟨a,?_,d⟩
  congr 1
  refine Array.ext (by simp[l]) λi r p=>?_;obtain rfl | rfl:i=0\/i=1:=by omega
  ·exact j
  ·exact o
def qgu{d c b:qhC}{a:Array qhC}{n:Nat}(h:AsR Z (#[d,c,b]++qj4 n qhE) a):∃o l k,a=#[o,l,k]++qj4 n qhE/\VR Z d o/\VR Z c l/\VR Z b k:=by
 have q:a.size=3+n:=by rw[<- h.1];simp
 have g:∀i (j:i<a.size) x,(#[d,c,b]++qj4 n qhE:Array qhC)[i]?=some x->VR Z x a[i]:=λi j x p=>h.2 i x _ p (qip j);refine⟨a[0]'(by omega),a[1]'(by omega),a[2]'(by omega),?_,g 0 (by omega) d (by simp[qln]),g 1 (by omega) c (by simp[qln]),g 2 (by omega) b (by simp[qln])⟩;refine Array.ext (by simp[q]) λi s t=>?_;by_cases j:i<3
 ·obtain rfl | rfl | rfl:i=0\/i=1\/i=2:=by omega
  all_goals simp[qqr]
 ·have r:i - 3<n:=by omega
  have e:(#[d,c,b]++qj4 n qhE:Array qhC)[i]?=some qhE:=by
   rw[Array.getElem?_append_right (by simp;omega),Array.getElem?_replicate];simp[r]
  have:=qah (g i s qhE e);rw[this];simp[qqr,j]
end
def Cas(N:Nat)(c:Nat->Nat->Int)(wq:qhy)(v:qhC)(u:qhy):Prop:=vC 0 u.heap.size u v N c/\qU u v/\(wq.tp u.tape).gb u none
def q87:Tryz.f85.results=#[.tmp 6]:=rfl
def qcj:Tryz.f85.ntmps=24:=rfl
section
variable[J:JunkSet]{f:qjf}{Post:qhC->qhy->Prop}{W:qhy}
def EL.doubtful(D:Two Ya qi8)(l8:JunkSet.okf 137)(x:∀i,¬ JunkSet.jk i)(m3:Ya.inits.idxOf? f=none)(m6:∃g,Ya.funcs[f]?=some g/\Tryz.prog.funcs[f]?=some g){b:qi5}{a:Act}{k:List qm1}{cs:List qi5}{wq:qhy}(hb:Bot f cs)(hs:Ya.funcs[b.fn]?=Tryz.prog.funcs[b.fn]?){X:Array qjx}{i:Nat}{b0:List Nat}{o:qjx}(ho:X[i]?=some o)(hw:qiy o (qjG X a.tmps)=true){L b8 U:Option qj5}{r:List Par}{l F:List Int}{yc pc vc N:Nat}{c:Nat->Nat->Int}{a6:Int}(e9:∀T,(ql0 a.eval o).run Ya (wq.tp T)=.ok (.enter 85 #[.agg #[.slice L r.length yc,a6],.slice b8 l.length pc,.slice U F.length vc]) (wq.tp T))(d9:qn 0 wq.heap.size wq (.slice L r.length yc) r)(yi:qU wq (.slice L r.length yc))(e5:qd 0 wq.heap.size wq (.slice b8 l.length pc) l)(pi:qU wq (.slice b8 l.length pc))(e4:qd 0 wq.heap.size wq (.slice U F.length vc) F)(vi:qU wq (.slice U F.length vc))(h0:qZ wq 0)(n5:r.length<=5)(p3:∀i,0<=pre Par.mn r r.length i/\pre Par.mn r r.length i<=1000)(n9:∀i,0<=pre Par.mx r r.length i/\pre Par.mx r r.length i<=1000)(bc:∀i d,0<=c i d/\c i d<=1000)(hl:∀y∈l,0<=y/\y<r.length)(ll:l.length<=1000)(l6:∀y∈F,0<=y/\y<5)(hN:N<=900000)(h9:∀T,qiw Ya 137 #[.agg #[.slice L r.length yc,a6],.slice U F.length vc] (wq.tp T) λe u=>∃v,e=.returned v/\Cas N c wq v u)(h8:∀u (v:Bool),(v=true↔∃i,i<N/\(qw r (ovr (c i) (pre Par.mn r r.length) F F.length) l && !qw r (ovr (c i) (pre Par.mx r r.length) F F.length) l)=true)->(wq.tp u.tape).gb u none ->EL Ya qi8 f Post W (G ((b.at a (.inRegion X (i::b0)::k)).finish (.bool v)) cs) u) :EL Ya qi8 f Post W (G (b.at a (.inRegion X (i::b0)::k)) cs) wq:=by
 obtain⟨fq,m7,l9⟩:∃fq,Ya.funcs[85]?=some fq/\fq.ntmps=Tryz.f85.ntmps:=by
  have h1:(Ya.funcs[85]?).map (·.ntmps)=some 24:=by kernel_rfl
  cases hq:Ya.funcs[85]? with
  | none=>rw[hq] at h1;cases h1
  | some fq=>rw[hq] at h1;exact⟨fq,rfl,by simpa using h1⟩
 refine EL.enterK D hb hs ho hw e9 ne85 m7 Tryz.func85 l9 (c0:=Tryz.f85.body.getD .skip) (by kernel_rfl) ?_;intro Z tp c' p9 R w cl m8 z;rw[qcj] at z;obtain⟨y0,y1,y2,rfl,v0,v1,v2⟩:=qgu (n:=21) (by simpa using z.tm);obtain⟨yb,rfl,vy⟩:∃yb,y0=.agg #[.slice yb r.length yc,a6]/\VR Z (.slice L r.length yc) (.slice yb r.length yc):=qgf v0;obtain⟨pb,rfl⟩:∃pb,y1=.slice pb l.length pc:=by cases v1<;>exact⟨_,rfl⟩
 obtain⟨vb,rfl⟩:∃vb,y2=.slice vb F.length vc:=by cases v2<;>exact⟨_,rfl⟩
 have c3:EE qi8 Post cl (G ((qir 85).at ⟨#[.agg #[.slice yb r.length yc,a6],.slice pb l.length pc,.slice vb F.length vc]++qj4 21 qhE,[]⟩ [.code (Tryz.f85.body.getD .skip)]) (c'::R)) w:=by
  refine qgp D l8 (Rc:=Cas N c wq) z.c0 z.ln z.wr z.gl z.own v0 v2 x h9 (λv u h=>by obtain⟨⟨b1,c1,e,_⟩,_⟩:=h;exact⟨b1,N,c1,e⟩) ?_;intro O s v Y B V A Nx Fd Wg ab N' ac w5 k6 n4 b9 p;obtain⟨b7,k0,I⟩:=n4;obtain⟨b1,c1,rfl,t6,t8⟩:=id b7;obtain⟨rfl,rfl⟩:N'=N/\ac=c1:=by cases b9<;>exact⟨rfl,rfl⟩
  have gb:∀{B:Nat},qZ wq B->qZ s B:=λ⟨n6,e,g,h1,h2⟩=>⟨n6,e,g,by rw[I.block _ (qhB.1 h1).1 (by simp)];exact h1,h2⟩;have gi:∀{v:qhC},qU wq v->qU s v:=λh S n c e=>gb (h S n c e);have e6:=vy.mono p.le;have g6:=v1.mono p.le;have e8:=v2.mono p.le;have t1:=YP p.wr x p.own (gi yi) e6;have t2:=YP p.wr x p.own (gi pi) g6;have t3:=YP p.wr x p.own (gi vi) e8;have t4:=YP p.wr x p.own k0 b9
  let bl:List Nat:=(yb.toList++pb.toList++vb.toList++ab.toList).map (·.block)
  have n2:∀b∈bl,k6 b=.mine 0/\qZ w5 b:=by
   intro b hb;simp only[bl,qmc,qkn,qrq] at hb;obtain⟨S,(((h | h) | h) | h),rfl⟩:=hb
   ·exact t1 S h
   ·exact t2 S h
   ·exact t3 S h
   ·exact t4 S h
  have C:∀{q:Option qj5},q∈[yb,pb,vb,ab]->∀S,q=some S->S.block∈bl:=by
   intro q hq S e;subst e;simp only[qjB,qk5,or_false] at hq;simp only[bl,qmc,qkn,qrq];refine⟨S,?_,rfl⟩;rcases hq with h | h | h | h<;>simp[<- h]
  have k7:BR O 0 0:=(z.gl 0 (qix _)).mono p.le;refine qgA p n2 ?_ (p.own _ _ k7) (C (by simp)) (C (by simp)) (C (by simp)) (C (by simp)) (qdj p.wr x (show qn 0 wq.heap.size s _ r from d9.kept (w:=wq.tp s.tape) I (by simp)) (gi yi) e6) (q7o p.wr x (show qd 0 wq.heap.size s _ F from e4.kept (w:=wq.tp s.tape) I (by simp)) (gi vi) e8) (q7o p.wr x (show qd 0 wq.heap.size s _ l from e5.kept (w:=wq.tp s.tape) I (by simp)) (gi pi) g6) (qan p.wr x b7 k0 b9) n5 p3 n9 bc hl ll l6 hN ?_
  ·obtain⟨cs,e,g,h0,m4⟩:=h0;have h1:s.heap[0]?=some (.cells cs e g):=by rw[I.block 0 (qhB.1 h0).1 (by simp)];exact h0
   exact qam p.wr x k7 ⟨cs,e,g,h1,m4⟩
  ·intro t todo w6 u0 v hv g9 l7 g8 g7 b6 m9 ht;have n3:W.heap.size<=w.heap.size:=z.kp.size;have c5:∀b,b<W.heap.size->k6 b=.mine 0:=λb hb=>(p.cold b (qia hb n3)).t (z.om b hb);have s6:w.heap.size<=w5.heap.size:=p.kp.size;refine EE.pure (g':=G (c'.finish (.bool v)) R) rfl (λw=>?_) λd=>?_
   ·have hr:(qkh qlD t).run qi8 w=.ok (.bool v) w:=by rw[<- ht];exact results_tmp q87 t qi8 w
    exact stepG_leave (P:=qi8) (main:=true) (b:=qir 85) (a:=⟨t,[]⟩) (cs:=R) (c:=c') (todo:=todo) (fn:=qlD) rfl rfl Tryz.func85 hr (qo8 q87 _ _)
   ·have e7:WR Ya W.heap.size O s w6:=p.wr.rely l7 (by rw[g8]) (λi j H _=>g9 j (p.wr.lt _ _ H) (p.own _ _ H)) (λi j _ h=>absurd h (x i));have hE:=h8 s v hv I;rw[m8] at hE;refine EL.resume hE m3 m6 p.le z.top z.rest (.bool v) (qae e7 d) p.ln z.gl (λi j H=>b6 j (p.own i j H)) m9 ⟨λj hj hn=>?_,g8.trans (p.kp.os.trans z.kp.os),g7.t (p.kp.output.trans z.kp.output),?_,λi j H hi=>?_,?_⟩ λb hb=>b6 b (c5 b hb)
    ·show w6.heap[j]?=_;rw[g9 j (by omega) (c5 j hj),p.kp.old j (by omega) hn,z.kp.old j hj λi hi=>hn i (hi.mono p.le)]
    ·show W.heap.size<=w6.heap.size;omega
    ·rcases p.fr i j H with h | h
     ·exact z.kp.inn i j h hi
     ·omega
    ·show W.heap.size<=w6.heap.size;omega
 have:=c3 w.drawn;exact this
end
end
section
open Go Go.RowKit Go.Co Go.Sim
def q7f(b:List Par)(a:List Int):Nat:=(kr b a).length
def q15(b:List Par)(a:List Int)(i d:Nat):Int:=((kr b a)[i]?.getD λ_=>0) d
def qet(c:List Par)(k:∀p∈c,0<=p.mn/\p.mn<=p.mx/\p.mx<=1000)(b:List Int):∀g∈kr c b,∀d,0<=g d/\g d<=1000:=by
 have e:∀(b:List Int) (L:List (Nat->Int)),(∀g∈L,∀d,0<=g d/\g d<=1000)->∀g∈b.foldl (vA c) L,∀d,0<=g d/\g d<=1000:=by
  intro b;induction b with
  | nil=>exact λL h=>h
  | cons x b j=>
   intro L h;refine j _ λg a d=>?_;unfold vA at a;split at a
   ·rename_i p f
    have⟨q,o,n⟩:=k p (qih f);unfold kD at a;rw[List.mem_flatMap] at a;obtain⟨l,i,a⟩:=a;unfold vu at a;rw[qmc] at a;obtain⟨m,hm,rfl⟩:=a;rw[qkg] at hm;unfold kOf at hm;unfold Ku;split
    ·omega
    ·exact h l i d
   ·exact h g a d
 exact e b _ λg a d=>by simp at a;subst a;simp
def qeu(a:List Par)(c:∀p∈a,0<=p.mn/\p.mn<=p.mx/\p.mx<=1000)(b:List Int)(i d:Nat):0<=q15 a b i d/\q15 a b i d<=1000:=by
 unfold q15;cases h:(kr a b)[i]? with
 | none=>simp
 | some g=>exact qet a c b g (qih h) d
def qgb{y f:Nat}{t w:qhC}{b:List Par}{o:Int}{a:List Int}{l:qhy}(N:j4 y f l t b o)(P:qd y f l w a)(z:f<=l.heap.size)(Q:b.length<=5)(G:∀x∈a,0<=x/\x<b.length)(I:∀p∈b,0<=p.mn/\p.mn<=p.mx/\p.mx<=1000)(F:∀j,j<=a.length->(kr b (a.take j)).length<=900000)(T:Nat->qk9->Nat) :qiw Ya 137 #[t,w] (l.tp T) λe u=>∃v,e=.returned v/\Cas (q7f b a) (q15 b a) l v u:=by
 refine(qa1 y f t w b o a (l.tp T) N P z Q G I F).mono ?_;rintro e u ⟨v,rfl,D,L,f⟩;have O:q7f b a<=900000:=by have:=F a.length (qhz _);rwa [qjt] at this
 refine⟨v,rfl,?_,?_,?_⟩
 ·rcases L.2 with⟨rfl,R⟩ | ⟨g,C,B,rfl,U,r,_,_,_,k⟩
  ·have A:q7f b a=0:=R;exact⟨none,0,by rw[A],by omega,λh=>by omega⟩
  ·refine⟨_,C,rfl,by omega,λ_=>⟨g,0,B,101,_,rfl,qix _,(qhB.1 r).1,r,λi f d M=>?_⟩⟩;have q:i<(kr b a).length:=f;have s:=q2b (kr b a) i _ (qhG q) d M;rw[<- k,qn9] at s;split at s
   ·rw[qib];unfold q15;rw[qhG q];simpa using s
   ·cases s
 ·intro S n c e;subst e;exact f S.block rfl
 ·have H:u.tape=T:=D.tape;rw[H];exact D
end
section
open Go Go.RowKit Go.Co Go.Sim Go.Conc Go.ConcN
def qbs{a:List Par}{f:Par->Int}(b:∀p∈a,0<=f p/\f p<=1000)(k i:Nat):0<=pre f a k i/\pre f a k i<=1000:=by
 unfold pre;split
 ·cases h:a[i]? with
  | none=>simp
  | some p=>exact b p (qih h)
 ·simp
def JT(a:List Par)(l b:List Int):Prop:=∃i,i<q7f a b/\(qw a (ovr (q15 a b i) (pre Par.mn a a.length) b b.length) l && !qw a (ovr (q15 a b i) (pre Par.mx a a.length) b b.length) l)=true
section
variable[J:JunkSet]{f:qjf}{Post:qhC->qhy->Prop}{W:qhy}
def EL.doubt(D:Two Ya qi8)(A:JunkSet.okf 137)(B:∀i,¬ JunkSet.jk i)(C:Ya.inits.idxOf? f=none)(F:∃g,Ya.funcs[f]?=some g/\Tryz.prog.funcs[f]?=some g){b:qi5}{a:Act}{k:List qm1}{I:List qi5}{d:qhy}(hb:Bot f I)(X:Ya.funcs[b.fn]?=Tryz.prog.funcs[b.fn]?){e:Array qjx}{i:Nat}{n:List Nat}{o:qjx}(Y:e[i]?=some o)(U:qiy o (qjG e a.tmps)=true){ybq pbq vbq:Option qj5}{ps:List Par}{l wl:List Int}{yc pc vc:Nat}{lim:Int}(w:∀T,(ql0 a.eval o).run Ya (d.tp T)=.ok (.enter 85 #[.agg #[.slice ybq ps.length yc,lim],.slice pbq l.length pc,.slice vbq wl.length vc]) (d.tp T))(q:qn 0 d.heap.size d (.slice ybq ps.length yc) ps)(O:qU d (.slice ybq ps.length yc))(s:qd 0 d.heap.size d (.slice pbq l.length pc) l)(Q:qU d (.slice pbq l.length pc))(r:qd 0 d.heap.size d (.slice vbq wl.length vc) wl)(P:qU d (.slice vbq wl.length vc))(h0:qZ d 0)(L:ps.length<=5)(z:∀p∈ps,0<=p.mn/\p.mn<=p.mx/\p.mx<=1000)(Z:∀y∈l,0<=y/\y<ps.length)(R:l.length<=1000)(t:∀y∈wl,0<=y/\y<ps.length)(M:∀j,j<=wl.length->(kr ps (wl.take j)).length<=900000)(x:∀u (v:Bool),(v=true↔JT ps l wl)->(d.tp u.tape).gb u none->EL Ya qi8 f Post W (G ((b.at a (.inRegion e (i::n)::k)).finish (.bool v)) I) u) :EL Ya qi8 f Post W (G (b.at a (.inRegion e (i::n)::k)) I) d:=by
 have H:q7f ps wl<=900000:=by have:=M wl.length (qhz _);rwa [qjt] at this
 exact EL.doubtful D A B C F hb X Y U (N:=q7f ps wl) (c:=q15 ps wl) w q O s Q r P h0 L (qbs (λp h=>by have:=z p h;omega) _) (qbs (λp h=>by have:=z p h;omega) _) (qeu ps z wl) Z R (λy S=>by have:=t y S;omega) H
  (qgb ⟨_,rfl,q⟩ r (qhz _) L t z M) λu v V hg=>x u v V hg
end
end
section
open Go Go.RowKit Go.Co
section
variable{lo hi O:Nat}{w w':qhy}{v:qhC}
def kW{i b:Array qhC}{e d:qid}{f g:Nat × Nat}{B:Nat}(h:w.heap[B]?=some (.cells i e f))(c:w.heap[O]?=some (.cells b d g))(a:e≠d):B≠O:=by
 rintro rfl;rw[h] at c;cases c;exact a rfl
def qd.kept_ne{l:List Int}(h:qd lo hi w v l)(i:w.gb w' (some O)){b:Array qhC}{n:Nat × Nat}(j:w.heap[O]?=some (.cells b 29 n)):qd lo hi w' v l:=by
 obtain⟨base,c,rfl,g,f⟩:=h;refine⟨base,c,rfl,g,λa=>?_⟩;have⟨B,o,t,k,s,r,q,d,p⟩:=f a;exact⟨B,o,t,k,s,r,q,blk i (λe=>kW d j (by decide) (by cases e;rfl)) d,p⟩
def qn.kept_ne{l:List Par}(h:qn lo hi w v l)(i:w.gb w' (some O)){b:Array qhC}{n:Nat × Nat}(j:w.heap[O]?=some (.cells b 29 n)):qn lo hi w' v l:=by
 obtain⟨base,c,rfl,g,f⟩:=h;refine⟨base,c,rfl,g,λa=>?_⟩;have⟨B,o,t,k,s,r,q,d,p⟩:=f a;exact⟨B,o,t,k,s,r,q,blk i (λe=>kW d j (by decide) (by cases e;rfl)) d,p⟩
def qZ.kept_ne{B:Nat}(h:qZ w B)(i:w.gb w' (some O)){a:Option qj5}{n c:Nat}{j:Nat × Nat}(b:w.heap[O]?=some (.cells #[.slice a n c] 29 j)):qZ w' B:=by
 obtain⟨l,e,f,g,d⟩:=h;refine⟨l,e,f,blk i (λe=>?_) g,d⟩;cases e;rw[g] at b;cases b;have⟨k,m,e⟩:=d 0 _ rfl;cases e
def qU.kept_ne(h:qU w v)(b:w.gb w' (some O)){a:Option qj5}{n c:Nat}{f:Nat × Nat}(d:w.heap[O]?=some (.cells #[.slice a n c] 29 f)):qU w' v:=λg m k e=>qZ.kept_ne (h g m k e) b d
end
end
section
open Go Go.RowKit Go.Co Go.Sim Go.Conc Go.ConcN
structure Qa(w:qhy)(O Y L:Nat)(yb:Option qj5)(ps:List Par)(yc:Nat)(lim:Int)(pb:Option qj5)(l:List Int)(pc:Nat):Prop where
 out:∃b n c,w.heap[O]?=some (.cells #[.slice b n c] 29 (0,0))
 ya:w.heap[Y]?=some (.cells #[.slice yb ps.length yc,lim] 91 (0,0))
 pa:w.heap[L]?=some (.cells #[.slice pb l.length pc] 29 (0,0))
 ne:O≠L
 pars:qn 0 w.heap.size w (.slice yb ps.length yc) ps
 yi:qU w (.slice yb ps.length yc)
 ints:qd 0 w.heap.size w (.slice pb l.length pc) l
 pi:qU w (.slice pb l.length pc)
 h0:qZ w 0
def Qa.kept{w w':qhy}{O Y L:Nat}{q:Option qj5}{r:List Par}{p:Nat}{i:Int}{t:Option qj5}{l:List Int}{s:Nat}(h:Qa w O Y L q r p i t l s)(a:w.gb w' (some O))(u:∃b n c,w'.heap[O]?=some (.cells #[.slice b n c] 29 (0,0))):Qa w' O Y L q r p i t l s:=by
 have⟨b,n,c,d⟩:=h.out;refine⟨u,blk a (λe=>kW h.ya d (by decide) (by cases e;rfl)) h.ya,blk a (λe=>h.ne (by cases e;rfl)) h.pa,h.ne,(h.pars.kept_ne a d).mono (qhz _) a.size,h.yi.kept_ne a d,(h.ints.kept_ne a d).mono (qhz _) a.size,h.pi.kept_ne a d,?_⟩;have⟨x,e,g,o,j⟩:=h.h0;refine⟨x,e,g,blk a (λe=>?_) o,j⟩;cases e;rw[d] at o;cases o;have⟨k,m,e⟩:=j 0 _ rfl;cases e
def Qa.tp{w:qhy}{O Y L:Nat}{c:Option qj5}{d:List Par}{b:Nat}{a:Int}{g:Option qj5}{l:List Int}{e:Nat}(h:Qa w O Y L c d b a g l e)(T:Nat->qk9->Nat):Qa (w.tp T) O Y L c d b a g l e :=
 ⟨h.out,h.ya,h.pa,h.ne,h.pars,h.yi,h.ints,h.pi,h.h0⟩
def Tp.x85:Ya.funcs[85]?=some { qlD with body:=some (.exit 0) }:=by kernel_rfl
section
variable[J:JunkSet]{f:qjf}{Post:qhC->qhy->Prop}{W:qhy}
def EC.of_body1(D:Two Ya qi8){d:qjf}{fn:Func}{c0:qkk}{b:Array qhC}{j:qhy}{R:qhC->qhy->Prop}{t:Nat}(n:Ya.funcs[d]?=some fn)(l:Tryz.prog.funcs[d]?=some fn)(i:fn.body=some c0)(k:fn.results=#[.tmp t])(h:∀e,Bot f e->(∀g a u,R (g.getD t qhE) u->EL Ya qi8 f Post W (G { (qir d).at ⟨g,[]⟩ a with mode:=.returning } e) u) ->EL Ya qi8 f Post W (G ((qir d).at ⟨b++qj4 (fn.ntmps - b.size) qhE,[]⟩ [.code c0]) e) j):EC Ya qi8 f Post W d b j R :=
 EC.of_body D n l i λe o c=>h e o λg a u p=>c ⟨g,[]⟩ a u _ rfl (λT=>results_tmp k _ _ _) p
structure qdd(ps:List Par)(l wl:List Int):Prop where
 n5:ps.length<=5
 hp:∀p∈ps,0<=p.mn/\p.mn<=p.mx/\p.mx<=1000
 hl:∀y∈l,0<=y/\y<ps.length
 ll:l.length<=1000
 hwl:∀y∈wl,0<=y/\y<ps.length
 wl1:wl.length<=1000
 hN:∀j,j<=wl.length->(kr ps (wl.take j)).length<=900000
def el83(D:Two Ya qi8)(b7:JunkSet.okf 137)(b8:∀i,¬ JunkSet.jk i)(b9:Ya.inits.idxOf? f=none)(c8:∃g,Ya.funcs[f]?=some g/\Tryz.prog.funcs[f]?=some g){wq:qhy}{O Y L:Nat}{yb:Option qj5}{ps:List Par}{yc:Nat}{lim:Int}{pb:Option qj5}{l:List Int}{pc:Nat}(h:Qa wq O Y L yb ps yc lim pb l pc){B:Option qj5}{vc:Nat}{wl:List Int}(hw:qd 0 wq.heap.size wq (.slice B wl.length vc) wl)(a9:qU wq (.slice B wl.length vc))(C:wl≠[]\/(qiH B wl.length vc)=.slice none 0 0)(F:qdd ps l wl) :EC Ya qi8 f Post W 83 #[.slice B wl.length vc,.pointer (some O),.pointer (some Y),.pointer (some L)] wq λv u=>∃d:Bool,v=.bool (!d)/\(d=true↔JT ps l wl)/\(wq.tp u.tape).gb u (some O)/\∃b n c,u.heap[O]?=some (.cells #[.slice b n c] 29 (0,0))/\qd 0 u.heap.size u (.slice b n c) wl:=by
 refine EC.of_body1 D (fn:=Tryz.f83) (c0:=Tryz.f83.body.getD .skip) (t:=5) Tp.x83 Tryz.func83 (by kernel_rfl) rfl λcs q r=>?_;have HR:=qhw r;clear r;simp only[Tryz.f83,qi0];have p:Ya.funcs[(qir 83).fn]?=Tryz.prog.funcs[(qir 83).fn]?:=zh 83 (by decide);walk_nrm;refine EL.sp D q p λT=>?_;go_wp2;refine EL.tape (wq:=wq) ?_ T;refine EL.sp D q p λT=>?_;have⟨ob,on,oc,S⟩:=h.out;have HO:=qhw S;have P:(wq.tp T).frozen? ⟨O,0,none⟩=false:=qj S;have Q:(wq.tp T).cell? O=some (.slice ob on oc):=q8 S rfl;have M:O<(wq.tp T).heap.size:=(qhB.1 S).1;clear S;go_wp2;refine(JW 0 wq.heap.size _ wl (wq.tp T) hw (qhz _) C F.wl1).mono ?_;rintro e A ⟨v',rfl,j,V⟩;have d5:=j.cl Q;have N:=(j.frozen_far _ M (by simp)).t P;have s:=(bk j HO);have⟨Z,H⟩:=qF j V;have b6:=j.size;have X:=qhw s;clear j V s;obtain⟨z,y,rfl,-,-⟩:=H.out.cell;go_wp2;have o:(wq.tp T).gb (A.setCell O (.slice z wl.length y)) (some O):=(Z.but (some O)).t (qf A O 0 _);have G:(A.setCell O (.slice z wl.length y)).heap[O]?=some (.cells #[.slice z wl.length y] 29 (0,0)):=by rw[qg X];rfl
 have U:qd 0 (A.setCell O (.slice z wl.length y)).heap.size (A.setCell O (.slice z wl.length y)) (.slice z wl.length y) wl :=
  (H.kept (qf A O 0 _) (λR e=>by cases e;exact .inl M)).mono (qix _) (by simp)
 generalize A.setCell O (.slice z wl.length y)=u at o G U ⊢;clear d5 N P Q b6 Z H X;have x:Qa u O Y L yb ps yc lim pb l pc:=Qa.kept (h.tp T) o ⟨_,_,_,G⟩;have b0:qd 0 u.heap.size u (.slice B wl.length vc) wl:=(qd.kept_ne (w:=wq.tp T) hw o HO).mono (qhz _) o.size;have I:qU u (.slice B wl.length vc):=qU.kept_ne (w:=wq.tp T) a9 o HO;show EL _ _ _ _ _ _ _;refine EL.seq D q p ?_;refine EL.region D q p ?_;simp only[qiu,qi3,qi7,qii,qib,qiz,qj9];refine EL.list D q p [0,1,2] [_,_,_] (rest:=[3,4,5]) rfl λT3=>?_;have c1:(u.tp T3).cell? Y=some (.slice yb ps.length yc):=q8 x.ya rfl;have c2:(u.tp T3).cell? ⟨Y,1,none⟩=some (.int .i64 lim):=q8 x.ya rfl;have c3:(u.tp T3).cell? L=some (.slice pb l.length pc):=q8 x.pa rfl;go_wp2;refine EL.tape (wq:=u) ?_ T3;refine EL.doubt D b7 b8 b9 c8 q p (ybq:=yb) (pbq:=pb) (vbq:=B) (ps:=ps) (l:=l) (wl:=wl) (yc:=yc) (pc:=pc) (vc:=vc) (lim:=lim) rfl rfl (λT4=>by rw[qnj (f:=85) rfl Tp.x85 (by kernel_rfl) rfl];walk_nrm) x.pars x.yi x.ints x.pi b0 I x.h0 F.n5 F.hp F.hl F.ll F.hwl F.hN λu2 d c9 a=>?_;rw[qkm];walk_nrm;refine EL.list D q p [4,5] [_,_] (rest:=[]) rfl λT5=>?_;go_wp2;refine EL.tape (wq:=u2) ?_ T5;refine EL.region_end D q p ?_;refine EL.retS D q p ?_;refine HR _ _ u2 ⟨d,rfl,c9,?_,z,wl.length,y,?_,?_⟩
 ·exact⟨a.os.trans o.os,rfl,a.output.trans o.output,qi1 o.size a.size,λk hk C=>(a.block k (qia hk o.size) (by simp)).t (o.block k hk C)⟩
 ·exact bk a G
 ·exact(qd.kept (w:=u.tp u2.tape) U a (by simp)).mono (qhz _) a.size
end
end
section
open Go Go.RowKit Go.Co Go.Sim Go.Conc Go.ConcN
def qf2(x:Array qhC)(h:x.size=41):∃Y X V U T S R Q P O N M L I H G F D C B A z y w v u s r q p o n l k j i g d c b a,x=#[Y,X,V,U,T,S,R,Q,P,O,N,M,L,I,H,G,F,D,C,B,A,z,y,w,v,u,s,r,q,p,o,n,l,k,j,i,g,d,c,b,a]:=by
 have e:=Z2 x;rw[h] at e;exact⟨_,_,_,_,_,_,_,_,_,_,_,_,_,_,_,_,_,_,_,_,_,_,_,_,_,_,_,_,_,_,_,_,_,_,_,_,_,_,_,_,_,e.t rfl⟩
structure YN(w:qhy)(E Lv Gp O Y Lp:Nat)(lb:Option qj5)(lc:Nat)(ws:List Int):Prop where
 en:w.heap[E]?=some (.cells #[.func (.func 83) #[] #[.pointer (some O),.pointer (some Y),.pointer (some Lp)]] 51 (0,0))
 ls:w.heap[Lv]?=some (.cells #[.slice lb ws.length lc] 29 (0,0))
 wsI:qd 0 w.heap.size w (.slice lb ws.length lc) ws
 gr:w.heap[Gp]?=some (.cells #[.func (.func 136) #[] #[.pointer (some E),.pointer (some Lv),.pointer (some Gp)]] 151 (0,0))
 neL:O≠Lv
def jf(p:List Int->Bool):List (List Int)->List Int->Bool × List Int
 | [],o=>(false,o)
 | c::a,_=>if p c then(true,c) else jf p a c
def q1b(p:List Int->Bool):∀(a b:List (List Int)) (o:List Int),jf p (a++b) o=if(jf p a o).1 then jf p a o else jf p b (jf p a o).2:=by
 intro a;induction a with
 | nil=>intro b o;simp[jf]
 | cons c a d=>
  intro b o;simp only[qi9,jf];by_cases h:p c=true
  ·simp[h]
  ·simp only[if_neg h];exact d b c
def q53(w:qhy)(a b:Nat)(e:qid):a<=qm4 w a b e:=by
 unfold qm4;simp only[Question.cut];omega
def qab(z:Array qhC)(a:zq z.toList)(b:0<z.size)(n:Nat):zq (qkl z n).toList:=q3v a b n
def q4v{w:qhy}{l:List Int}{zs:Array qhC}(g:zq zs.toList)(k:l.length<=1000000)(a:Nat) :qd w.heap.size (w.drew.alloc (.cells ((l.map (qim .i64)).toArray++zs) 3)).heap.size (w.drew.alloc (.cells ((l.map (qim .i64)).toArray++zs) 3)) (.slice (some w.heap.size) l.length a) l /\qU (w.drew.alloc (.cells ((l.map (qim .i64)).toArray++zs) 3)) (.slice (some w.heap.size) l.length a):=by
 have b:(w.drew.alloc (.cells ((l.map (qim .i64)).toArray++zs) 3)).heap[w.heap.size]?=some (.cells ((l.map (qim .i64)).toArray++zs) 3 (0,0)):=qhH w.drew _;refine⟨⟨_,a,rfl,by omega,λ_=>⟨w.heap.size,0,_,_,rfl,qhz _,?_,b,λi d=>?_⟩⟩,λo n c e=>?_⟩
 ·exact(qhB.1 b).1
 ·rw[qib,qnu (by simpa using d)];simp[qhG d]
 ·cases e;refine⟨_,_,_,b,λi v j=>?_⟩;have hm:=qk4 j;rcases qlf.1 hm with h | h
  ·simp only[qlh,qmc] at h;obtain⟨x,_,rfl⟩:=h;exact⟨_,_,rfl⟩
  ·exact g v (by simpa using h)
def qbo{w:qhy}{A:Option qj5}{L B:Nat}{a:List Int}{x:Int}(z:qid)(H:qd 0 w.heap.size w (.slice A a.length L) a)(M:w.cell? B=some (.int .i64 x))(R:a.length<=1000) :∃c p,(qlz #[29,29] z #[.slice A a.length a.length,.slice (some B) 1 1]).run Ya w=.ok (.slice (some w.heap.size) (a.length+1) c) p/\a.length+1<=c/\w.gb p none /\qd w.heap.size p.heap.size p (.slice (some w.heap.size) (a.length+1) c) (a++[x])/\qU p (.slice (some w.heap.size) (a.length+1) c):=by
 have⟨F,y,u,h,s⟩:=qk1 Tp.info3p;have g:∀j v,([qim .i64 x]:List qhC)[j]?=some v->w.cell? ((⟨B,0,none⟩:qj5).add j)=some v:=λj v k=>by
  have:j=0:=by have:=(qic.1 k).1;simp at this;omega
  subst this;simp at k;subst k;simpa[Addr.add] using M
 have r:zq (qim .i64 0).cells.toList:=λv G=>by simp[qp3] at G;exact⟨_,_,G⟩
 have q:(a++[x]).length=a.length+1:=by simp
 cases A with
 | none=>
  have Q:a=[]:=by
   refine qiG λC=>?_;obtain⟨base,c,e,_,n⟩:=H;cases e;have⟨B,o,T,S,D,_⟩:=n C;cases D
  subst Q;have n:=run_append_nil (P:=Ya) w 29 z 3 F _ Tp.und29' y u ⟨B,0,none⟩ 1 1 [qim .i64 x] (by rw[h];rfl) g (by omega) (by omega) (by rw[s];omega);have:=q4v (w:=w) (l:=[x]) (zs:=qkl (qim .i64 0).cells (qm4 w 1 0 3 - 1)) (qab _ r (by decide) _) (by simp) (qm4 w 1 0 3);exact⟨_,_,n,q53 _ _ _ _,(q9 w none).t (qhx _ _ none),this.1,this.2⟩
 | some b=>
  have i:∀j v,(a.map (qim .i64))[j]?=some v->w.cell? (b.add j)=some v:=λj v k=>by
   have d:j<a.length:=by simpa using(qic.1 k).1
   have⟨base,c,e,_,N⟩:=H.cell;cases e;have⟨U,o,D,_,_,_,O⟩:=N (by intro e;rw[e] at d;simp at d);cases D;have I:=O j d;rw[qjA,qhG d] at k;rw[qhG d] at I;cases k;exact jI I
  have n:=run_append_grow (P:=Ya) w 29 z 3 F _ Tp.und29' y u b a.length a.length (a.map (qim .i64)) (by rw[h];simp) i ⟨B,0,none⟩ 1 1 [qim .i64 x] (by rw[h];rfl) g (by omega) (by omega) (growslice_fits (by omega) (by rw[s];omega));have:=q4v (w:=w) (l:=a++[x]) (zs:=qkl (qim .i64 0).cells (qm4 w (a.length+1) a.length 3 - (a.length+1))) (qab _ r (by decide) _) (by simp;omega) (qm4 w (a.length+1) a.length 3);have e:(a.map (qim .i64)).toArray++[qim .i64 x].toArray=((a++[x]).map (qim .i64)).toArray:=by simp
  rw[e] at n;rw[q] at this;exact⟨_,_,n,q53 _ _ _ _,(q9 w none).t (qhx _ _ none),this.1,this.2⟩
section
variable[J:JunkSet]{f:qjf}{Post:qhC->qhy->Prop}{W:qhy}
noncomputable def sub:List Nat->qkk->qkk
 | 0::l,.seq a _=>sub l a
 | 1::l,.seq _ b=>sub l b
 | 0::l,.cond _ a _=>sub l a
 | 1::l,.cond _ _ b=>sub l b
 | 0::l,.block _ c=>sub l c
 | 0::l,.loop c=>sub l c
 | _,c=>c
def q8t{d:Array qjx}{o:qjx}{a:Act}{w:qhy}{K:Act->qhy->Prop}{Q:Exit->Act->qhy->Prop}{E:Prop}(g:o.guard=none)(s x:qj0)(e:o.op=.call { callee:=.builtin .append,args:=#[s,x],argTypes:=#[29,29] }){nb:Option qj5}{nc B:Nat}{now:List Int}{y:Int}(hs:a.eval s=.slice nb now.length now.length)(hx:a.eval x=.slice (some B) 1 1)(hN:qd 0 w.heap.size w (.slice nb now.length nc) now)(hy:w.cell? B=some (.int .i64 y))(hl:now.length<=1000)(h:∀b c,now.length+1<=b->w.gb c none->qd w.heap.size c.heap.size c (.slice (some w.heap.size) (now.length+1) b) (now++[y])->qU c (.slice (some w.heap.size) (now.length+1) b)->K (a.put o.dst (.slice (some w.heap.size) (now.length+1) b)) c) :if qiy o (qjG d a.tmps)=true then Oper.wp Ya o a w K Q else E:=by
 rw[if_pos (by simp[qiy,g])];have⟨b,c,i,n,l,k,j⟩:=qbo o.type hN hy hl;unfold Oper.wp ql0;simp only[e,resolve,invoke,builtin,qjz,qn8,qjv,qn1,qle,qna,hs,hx,i];exact h b c n l k j
noncomputable def q6p:qkk->Array qjx
 | .region _ ops _=>ops
 | _=>#[]
def reg6(D:Two Ya qi8){cs:List qi5}{k:List qm1}(S:Bot f cs){u:qhy}{E Lv Gp O Y Lp LB lo:Nat}{nb:Option qj5}{lc nc i m:Nat}{ws now:List Int}{x:Int}{y1 y3 y6 y7 y8 y9 y11 y12 y13 y14 y15 y16 y17 y18 y19 y20 y21 y22 y23 y24 y25 y26 y27 y28 y29 y30 y31 y32 y33 y34 y35 y36 y37 y38 y39 y40:qhC}(A:YN u E Lv Gp O Y Lp (some ⟨LB,lo,none⟩) lc ws)(z:qd 0 u.heap.size u (.slice nb now.length nc) now)(Q:now.length<=nc)(hi:i<ws.length)(r:u.cell? ⟨LB,lo+i,none⟩=some (.int .i64 x))(hm:m<=1000)(R:now.length<=1000)(hw:ws.length<=1000)(b:∀g a d,now.length+1<=a->(u.tp d.tape).gb d none->qd 0 d.heap.size d (.slice (some ⟨g,0,none⟩) (now.length+1) a) (now++[x])->qU d (.slice (some ⟨g,0,none⟩) (now.length+1) a) ->EL Ya qi8 f Post W (G ((qir 136).at ⟨#[(.slice nb now.length nc),y1,(.int .i64 (m+1:Nat)),y3,(.pointer (some Lv)),(.pointer (some Gp)),y6,y7,y8,y9,(.int .i64 i),y11,y12,y13,y14,y15,y16,y17,y18,y19,y20,y21,y22,(.func (.func 136) #[] #[.pointer (some E),.pointer (some Lv),.pointer (some Gp)]),(.slice nb now.length nc),(.slice nb now.length nc),(.int .i64 now.length),(.slice nb now.length nc),(.int .i64 now.length),(.slice nb now.length now.length),(.slice (some ⟨LB,lo,none⟩) ws.length lc),(.int .i64 i),(.pointer (some ⟨LB,lo+i,none⟩)),(.int .i64 x),(.slice (some u.heap.size) 1 1),(.slice (some ⟨g,0,none⟩) (now.length+1) a),(.int .i64 i),(.int .i64 (i+1:Nat)),(.int .i64 (m+1:Nat)),(.int .i64 m),y40],[]⟩ (.inRegion (q6p (sub [1,1,0,1,0,0,1,0,0,0] (Tryz.f136.body.getD .skip))) [17]::k)) cs) d) :EL Ya qi8 f Post W (G ((qir 136).at ⟨#[(.slice nb now.length nc),y1,(.int .i64 (m+1:Nat)),y3,(.pointer (some Lv)),(.pointer (some Gp)),y6,y7,y8,y9,(.int .i64 i),y11,y12,y13,y14,y15,y16,y17,y18,y19,y20,y21,y22,y23,y24,y25,y26,y27,y28,y29,y30,y31,y32,y33,y34,y35,y36,y37,y38,y39,y40],[]⟩ (.code (sub [1,1,0,1,0,0,1,0,0,0] (Tryz.f136.body.getD .skip))::k)) cs) u:=by
 have P:Ya.funcs[(qir 136).fn]?=Tryz.prog.funcs[(qir 136).fn]?:=zh 136 (by decide);simp only[qoA,qi0,sub,q6p] at b ⊢;have Z:=qhw b;clear b;refine EL.region_chain D S P 17 [17] (by kernel_rfl) (by kernel_rfl) (by kernel_rfl) (by kernel_rfl) λT=>?_;generalize y:zQ _ 17=ops';simp only[zQ,List.take_succ_cons,List.take_zero,qig,qit,qle,qna,qi9,qin,jZ] at y;subst y;have F:(u.tp T).cell? Gp=some (.func (.func 136) #[] #[.pointer (some E),.pointer (some Lv),.pointer (some Gp)]):=q8 A.gr rfl;have C:(u.tp T).cell? Lv=some (.slice (some ⟨LB,lo,none⟩) ws.length lc):=q8 A.ls rfl;have B:(u.tp T).cell? ⟨LB,lo+i,none⟩=some (.int .i64 x):=r;have H:=qhw (show qd 0 (u.tp T).heap.size (u.tp T) (.slice nb now.length nc) now from z);clear z r;have N:IntKind.i64.wrap ((i:Int)+1)=((i+1:Nat):Int):=by simp[qnE];omega
 have M:IntKind.i64.wrap (m:Int)=(m:Int):=by simp only[qnE];omega
 change wpAny _ _ _ _ _ _ _ (World.drew (u.tp T));generalize s:u.tp T=v at F C B H ⊢;have X:=qhw s;clear s;have c:=qhw (show ∀w,v.gb w none->w.cell? Gp=some (.func (.func 136) #[] #[.pointer (some E),.pointer (some Lv),.pointer (some Gp)])/\w.cell? Lv=some (.slice (some ⟨LB,lo,none⟩) ws.length lc)/\w.cell? ⟨LB,lo+i,none⟩=some (.int .i64 x) from λw h=>⟨h.cl F,h.cl C,h.cl B⟩);have q:v.gb v.drew none:=q9 v none;have e:=q.t (qhx v.drew (.cells #[x] 3) none);refine qhe 17 (λw=>w.cell? Gp=some (.func (.func 136) #[] #[.pointer (some E),.pointer (some Lv),.pointer (some Gp)])/\w.cell? Lv=some (.slice (some ⟨LB,lo,none⟩) ws.length lc)/\w.cell? ⟨LB,lo+i,none⟩=some (.int .i64 x)) (by kernel_rfl) (c _ q) (λhHeld=>?_);simp only[qi3,qi7,qii,qiB,qib,qij,qik,qiq,qin,qi9];refine tk 0 (h:=tk 1 (h:=tk 2 (h:=tk 3 (h:=tk 4 (h:=tk 5 (h:=tk 6 (h:=tk 7 (h:=tk 8 (h:=tk 9 (h:=tk 10 (h:=tk 13 (h:=tk 14 (h:=tk 15 (h:=tk 16 (h:=?_)))))))))))))));try go_frame
 refine rdc 11 λK j=>?_;go_simp;refine j.out _ _ (c _ e) (λhHeld=>?_);clear j K;try go_frame
 refine rdc 12 λK j=>?_;refine q8t rfl (.tmp 29) (.tmp 34) rfl (nc:=nc) rfl rfl ((H.kept e).mono (qhz _) e.size) (kq _ _ _ _) R (λa I L p o n=>?_);refine j.out _ _ (c _ (e.t p)) (λhHeld=>?_);clear j K;try go_frame
 refine⟨by kernel_rfl,?_⟩;simp only[qig,qit];have l:=qhw (e.t p);rw[show(v.alloc (.cells #[x] 3)).drew.heap.size=v.heap.size+1 from qi6 _ _] at o n;have⟨V,U⟩:=qF o n;clear p o n hHeld q e;go_wp2;obtain rfl:=X.out;exact Z _ a I L ⟨l.os,rfl,l.output,l.size,l.block⟩ (V.mono (qix _) (qhz _)) U
end
end
section
open Go Go.RowKit Go.Co Go.Sim Go.Conc Go.ConcN
def xH{P:qi4}{a:Act}{w:qhy}{o:qjx}{e:qj0}{f:qjf}{b:Func}{args:Array qj0}{d:Array qid}{jC:Array qhC}(c:o.op=.call { callee:=.value e,args,argTypes:=d })(hv:a.eval e=.func (.func f) #[] jC)(hf:P.funcs[f]?=some b)(hname:(b.name == "runtime.NumGoroutine")=false)(hb:b.body.isNone=false):(ql0 a.eval o).run P w=.ok (.enter f (args.map a.eval++jC)) w:=by
 have h:¬ b.name = "runtime.NumGoroutine" := by simpa using hname
 have g:¬ b.body=none:=by cases hx:b.body<;>simp_all
 unfold ql0;simp[c,resolve,Deferred.ofValue,invoke,callFunc,hf,h,g,hv]
def Out(w:qhy)(O:Nat)(o:List Int):Prop:=∃b n c,w.heap[O]?=some (.cells #[.slice b n c] 29 (0,0))/\qd 0 w.heap.size w (.slice b n c) o
noncomputable def kC(a:List Par)(l c:List Int):Bool:=@decide (¬ JT a l c) (Classical.propDecidable _)
def q43{a:List Par}{l c:List Int}{d:Bool}(h:d=true↔JT a l c):kC a l c=!d:=by
 unfold kC;cases d
 ·simpa using λe=>Bool.false_ne_true (h.2 e)
 ·simpa using h.1 rfl
def YN.kept{w w':qhy}{E k o O Y l:Nat}{j:Option qj5}{i:Nat}{g:List Int}(h:YN w E k o O Y l j i g)(a:w.gb w' (some O)){b:Option qj5}{n c:Nat}(d:w.heap[O]?=some (.cells #[.slice b n c] 29 (0,0))):YN w' E k o O Y l j i g :=
 ⟨blk a (λe=>kW h.en d (by decide) (by cases e;rfl)) h.en,blk a (λe=>h.neL (by cases e;rfl)) h.ls,(h.wsI.kept_ne a d).mono (qhz _) a.size,blk a (λe=>kW h.gr d (by decide) (by cases e;rfl)) h.gr,h.neL⟩
def YN.tp{w:qhy}{E d g O Y e:Nat}{c:Option qj5}{b:Nat}{a:List Int}(h:YN w E d g O Y e c b a)(T:Nat->qk9->Nat):YN (w.tp T) E d g O Y e c b a:=⟨h.en,h.ls,h.wsI,h.gr,h.neL⟩
def gb{w u v:qhy}{r:Option Nat}(h:(w.tp u.tape).gb u r)(k:(u.tp v.tape).gb v r):(w.tp v.tape).gb v r :=
 ⟨k.os.trans h.os,rfl,k.output.trans h.output,qi1 h.size k.size,λi b a=>(k.block i (qia b h.size) a).t (h.block i b a)⟩
def qg0{w u:qhy}(r:Option Nat)(h:(w.tp u.tape).gb u none):(w.tp u.tape).gb u r:=h.but r
def Out.kept{w u:qhy}{O:Nat}{o:List Int}(h:Out w O o)(a:(w.tp u.tape).gb u none):Out u O o:=by
 obtain⟨b,n,c,e,d⟩:=h;exact⟨b,n,c,bk a e,(qd.kept (w:=w.tp u.tape) d a (by simp)).mono (qhz _) a.size⟩
def Qa.gr{w u:qhy}{O Y L:Nat}{e:Option qj5}{g:List Par}{d:Nat}{a:Int}{j:Option qj5}{l:List Int}{i:Nat}{o:List Int}(h:Qa w O Y L e g d a j l i)(p:(w.tp u.tape).gb u (some O))(k:Out u O o):Qa u O Y L e g d a j l i:=by
 obtain⟨b,n,c,q,-⟩:=k;exact(h.tp _).kept p ⟨b,n,c,q⟩
def YN.gw{w u:qhy}{E g j O Y i:Nat}{e:Option qj5}{d:Nat}{a o:List Int}(h:YN w E g j O Y i e d a)(l:(w.tp u.tape).gb u (some O))(k:Out w O o):YN u E g j O Y i e d a:=by
 obtain⟨b,n,c,p,-⟩:=k;exact(h.tp _).kept l (b:=b) (n:=n) (c:=c) p
def qd.gr{w u:qhy}{O:Nat}{v:qhC}{l o:List Int}(h:qd 0 w.heap.size w v l)(a:(w.tp u.tape).gb u (some O))(d:Out w O o):qd 0 u.heap.size u v l:=by
 obtain⟨b,n,c,e,-⟩:=d;exact(qd.kept_ne (w:=w.tp u.tape) h a e).mono (qhz _) a.size
def GrR(g:List Par)(l d:List Int)(O m:Nat)(c:List Int)(a:Nat)(h:List Int)(e:qhy)(v:qhC)(u:qhy):Prop :=
 ∃b o,jf (kC g l) (zR d m c a) h=(b,o)/\v=.bool b/\(e.tp u.tape).gb u (some O)/\Out u O o
def Jh(w:qhy)(r:Option Nat):(w.tp w.tape).gb w r:=⟨rfl,rfl,rfl,qhz _,λ_ _ _=>rfl⟩
section
variable[J:JunkSet]{f:qjf}{Post:qhC->qhy->Prop}{W:qhy}
def qhb(D:Two Ya qi8)(k6:JunkSet.okf 137)(l4:∀i,¬ JunkSet.jk i)(l5:Ya.inits.idxOf? f=none)(l7:∃g,Ya.funcs[f]?=some g/\Tryz.prog.funcs[f]?=some g){M:List Par}{l ws:List Int}{yb pb lb:Option qj5}{yc pc lc E Lv Gp O Y Lp:Nat}{h8:Int}(k0:ws.length<=1000)(c8:∀c:List Int,(∀y∈c,y∈ws)->c.length<=ws.length->qdd M l c) :∀(m:Nat) (now:List Int) (p:Nat) (nb:Option qj5) (nc:Nat) (wq:qhy) (N:List Int),m+now.length<=ws.length->(∀y∈now,y∈ws)->YN wq E Lv Gp O Y Lp lb lc ws->Qa wq O Y Lp yb M yc h8 pb l pc->Out wq O N ->qd 0 wq.heap.size wq (.slice nb now.length nc) now->qU wq (.slice nb now.length nc)->now.length<=nc->(now≠[]\/qiH nb now.length nc=.slice none 0 0)->p<=1000 ->EC Ya qi8 f Post W 136 #[.slice nb now.length nc,p,m,.pointer (some E),.pointer (some Lv),.pointer (some Gp)] wq (GrR M l ws O m now p N wq):=by
 have j:Ya.funcs[(qir 136).fn]?=Tryz.prog.funcs[(qir 136).fn]?:=zh 136 (by decide);intro m;induction m with
 | zero=>
  intro now p nb nc wq N b9 w hG hW hO hN d7 b8 b7 l8;refine EC.of_body1 D (fn:=qoA) (c0:=Tryz.f136.body.getD .skip) (t:=9) Tp.x136 Tryz.func136 (by kernel_rfl) rfl λcs a r=>?_;have HR:=qhw r;clear r;simp only[qoA,qi0];walk_nrm;refine EL.sp D a j λT=>?_;go_wp2;refine EL.tape (wq:=wq) ?_ T;refine EL.seq D a j ?_;refine EL.sp D a j λT=>?_;go_wp2;refine EL.tape (wq:=wq) ?_ T;refine EL.cond D a j true (by rfl) ?_;simp only[if_true];refine EL.seq D a j ?_;refine EL.region D a j ?_;simp only[qiu,qi3,qi7,qii,qib,qiz,qj9];have l9:=q8 (o:=0) hG.en rfl;refine EL.list D a j [0,1] [_,_] (rest:=[2,3]) rfl λT=>?_;have c1:(wq.tp T).cell? E=some (.func (.func 83) #[] #[.pointer (some O),.pointer (some Y),.pointer (some Lp)]):=l9;go_wp2;refine EL.tape (wq:=wq) ?_ T;refine EL.enter D a j (fk:=83) (args:=#[.slice nb now.length nc,.pointer (some O),.pointer (some Y),.pointer (some Lp)]) rfl rfl (λT=>by rw[xH (f:=83) rfl rfl Tp.x83 (by kernel_rfl) rfl];walk_nrm) (zh 83 (by decide)) ?_;refine el83 D k6 l4 l5 l7 hW hN d7 b7 (c8 now w (by omega)) _ cs a j λv u hR=>?_;obtain⟨d,rfl,Z,H,b,n,c,k8,k7⟩:=hR;rw[qkm];walk_nrm;refine EL.list D a j [3] [_] (rest:=[]) rfl λT=>?_;go_wp2;refine EL.tape (wq:=u) ?_ T;refine EL.region_end D a j ?_;refine EL.retS D a j ?_;refine HR _ _ u ⟨!d,now,?_,rfl,H,b,n,c,k8,k7⟩;simp only[zR,jf,q43 Z];cases d<;>rfl
 | succ m ih=>
  intro now p nb nc wq N b9 w hG hW hO hN d7 b8 b7 l8;refine EC.of_body1 D (fn:=qoA) (c0:=Tryz.f136.body.getD .skip) (t:=9) Tp.x136 Tryz.func136 (by kernel_rfl) rfl λcs a r=>?_;have HR:=qhw r;clear r;have v4:((m:Int)+1 == 0)=false:=by
   rw[beq_eq_false_iff_ne];omega
  have Q:∀(d:Nat) (i:Nat) (z:Array qhC) (u:qhy) (o:List Int),d=ws.length - i->i<=1001->z.size=41->z[0]?=some (.slice nb now.length nc)->z[2]?=some (.int .i64 (m+1:Nat))->z[3]?=some (.pointer (some E))->z[4]?=some (.pointer (some Lv))->z[5]?=some (.pointer (some Gp))->z[10]?=some (.int .i64 i) ->
    (wq.tp u.tape).gb u (some O)->Out u O o->jf (kC M l) (zR ws (m+1) now p) N=jf (kC M l) (zR ws (m+1) now i) o ->
    EL Ya qi8 f Post W (G ((qir 136).at ⟨z,[]⟩ (.code (sub [1,1,0,1,0,0] (Tryz.f136.body.getD .skip))::.inLoop (sub [1,1,0,1,0,0] (Tryz.f136.body.getD .skip))::.inBlock 0::.code (sub [1,1,1] (Tryz.f136.body.getD .skip))::[])) cs) u:=by
   intro d;induction d with
   | zero=>
    intro i z u o Z hi hz h0 h2 h3 h4 h5 C H B F;obtain⟨y0,y1,y2,y3,y4,y5,y6,y7,y8,y9,g8,y11,y12,y13,y14,y15,y16,y17,y18,y19,y20,y21,y22,y23,y24,y25,y26,y27,y28,y29,y30,y31,y32,y33,y34,y35,y36,y37,y38,y39,y40,rfl⟩:=qf2 z hz;clear hz;simp at h0 h2 h3 h4 h5 C;subst h0 h2 h3 h4 h5 C;have e8:=qhw F;have U:=q8 (o:=0) (hG.gw H hO).ls rfl;have k9:¬ (i:Int)<(ws.length:Int):=by omega
    have v6:ws.length<=i:=by omega
    clear Z;simp only[qoA,qi0,sub];refine EL.seq D a j ?_;refine EL.sp D a j λT=>?_;have c1:(u.tp T).cell? Lv=some (.slice lb ws.length lc):=U;go_wp2;refine EL.tape (wq:=u) ?_ T;refine EL.cond D a j false (by rfl) ?_;simp only[if_false,qiC];refine EL.exit D a j rfl ?_;refine EL.sp D a j λT=>?_;go_wp2;refine EL.tape (wq:=u) ?_ T;refine EL.retS D a j ?_;refine HR _ _ u ⟨false,o,?_,rfl,H,B⟩;rw[F,q29 (by omega)];rfl
   | succ d R=>
    intro i z u o Z hi hz h0 h2 h3 h4 h5 C H B F;obtain⟨y0,y1,y2,y3,y4,y5,y6,y7,y8,y9,g8,y11,y12,y13,y14,y15,y16,y17,y18,y19,y20,y21,y22,y23,y24,y25,y26,y27,y28,y29,y30,y31,y32,y33,y34,y35,y36,y37,y38,y39,y40,rfl⟩:=qf2 z hz;clear hz;simp at h0 h2 h3 h4 h5 C;subst h0 h2 h3 h4 h5 C;have e8:=qhw F;have I:=hG.gw H hO;have U:=q8 (o:=0) I.ls rfl;have s:i<ws.length:=by omega
    have k9:(i:Int)<(ws.length:Int):=by omega
    have HD:=qhw Z;clear Z;have m6:=hN.gr H hO;have H6:=λk (a1 a3 a6 a7 a8 a9 s7 s6 s5 s4 s3 s2 s1 r9 r8 r7 r6 r5 r4 r3 q7 q6 q5 q0 p9 p8 p7 p6 p5 p4 p3 n9 n8 n7 n6 n4:qhC) LB P m9 x hx c3=>reg6 (f:=f) (Post:=Post) (W:=W) (cs:=cs) (k:=k) (y1:=a1) (y3:=a3) (y6:=a6) (y7:=a7) (y8:=a8) (y9:=a9) (y11:=s7) (y12:=s6) (y13:=s5) (y14:=s4) (y15:=s3) (y16:=s2) (y17:=s1) (y18:=r9) (y19:=r8) (y20:=r7) (y21:=r6) (y22:=r5) (y23:=r4) (y24:=r3) (y25:=q7) (y26:=q6) (y27:=q5) (y28:=q0) (y29:=p9) (y30:=p8) (y31:=p7) (y32:=p6) (y33:=p5) (y34:=p4) (y35:=p3) (y36:=n9) (y37:=n8) (y38:=n7) (y39:=n6) (y40:=n4) D a (u:=u) (E:=E) (Lv:=Lv) (Gp:=Gp) (O:=O) (Y:=Y) (Lp:=Lp) (LB:=LB) (lo:=P) (nb:=nb) (lc:=lc) (nc:=nc) (i:=i) (m:=m) (ws:=ws) (now:=now) (x:=x) m9 m6 b8 s hx (by omega) (by omega) k0 c3;simp only[qoA,qi0,sub,q6p] at H6 R ⊢;have t2:=qhw H6;clear H6;have s9:=qhw R;clear R;refine EL.seq D a j ?_;refine EL.sp D a j λT=>?_;have c1:(u.tp T).cell? Lv=some (.slice lb ws.length lc):=U;go_wp2;refine EL.tape (wq:=u) ?_ T;refine EL.cond D a j true (by rfl) ?_;simp only[if_true];refine EL.skip D a j ?_;refine EL.seq D a j ?_;refine EL.block D a j ?_;refine EL.seq D a j ?_;obtain⟨b1,v8,he,-,X⟩:=I.wsI.cell;cases he;obtain⟨LB,P,rfl,-,-,-,n2⟩:=X (by intro e;rw[e] at s;simp at s);have hx:=n2 i s;refine t2 _ _ _ _ _ _ _ _ _ _ _ _ _ _ _ _ _ _ _ _ _ _ _ _ _ _ _ _ _ _ _ _ _ _ _ _ _ LB P I _ hx ?_;intro g e7 u' q1 q2 q3 q4;generalize b6:ws[i]?.getD 0=x at hx q3 q4;have gU:(u.tp u'.tape).gb u' (some O):=qg0 _ q2;have d5:=B.kept q2;have m8:=I.gw gU B;have m3:=(hW.gr H B).gr gU d5;have S:∀y∈now++[x],y∈ws:=by
     intro y hy;rcases qkn.1 hy with h | h
     ·exact w y h
     ·obtain rfl:=qkv.1 h;rw[<- b6,qhG s];exact qnD s
    have q:(now++[x]).length=now.length+1:=by simp
    have V:=ih (now++[x]) (i+1) (some ⟨g,0,none⟩) e7 u' o (by rw[q];omega) S m8 m3 d5 (by rw[q];exact q3) (by rw[q];exact q4) (by rw[q];exact q1) (.inl (by simp)) (by omega);rw[q] at V;have t1:=qhw V;clear V;refine EL.enter D a j (fk:=136) (args:=#[.slice (some ⟨g,0,none⟩) (now.length+1) e7,.int .i64 (i+1:Nat),m,.pointer (some E),.pointer (some Lv),.pointer (some Gp)]) rfl rfl (λT=>by rw[xH (f:=136) rfl rfl Tp.x136 (by kernel_rfl) rfl];walk_nrm) (zh 136 (by decide)) ?_;refine t1 _ cs a j λv u2 hR=>?_;obtain⟨b,o2,k5,rfl,l6,c9⟩:=hR;rw[qkm];walk_nrm;have A:(wq.tp u2.tape).gb u2 (some O):=gb (gb H gU) l6;have L:jf (kC M l) (zR ws (m+1) now p) N=if b=true then(b,o2) else jf (kC M l) (zR ws (m+1) now (i+1)) o2:=by
     rw[e8,ZF s,b6,q1b,k5]
    refine EL.region_end D a j ?_;cases b with
    | true=>
     refine EL.cond D a j true (by rfl) ?_;simp only[if_true];refine EL.sp D a j λT=>?_;go_wp2;refine EL.tape (wq:=u2) ?_ T;refine EL.retS D a j ?_;exact HR _ _ u2 ⟨true,o2,L,rfl,A,c9⟩
    | false=>
     refine EL.cond D a j false (by rfl) ?_;simp only[if_false,qiC];refine EL.skip D a j ?_;refine EL.inBlock D a j ?_;have v3:IntKind.i64.wrap ((i:Int)+1)=((i+1:Nat):Int):=by simp[qnE];omega
     refine EL.piece D a j λT=>?_;go_wp2;refine EL.tape (wq:=u2) ?_ T;refine EL.inLoop D a j ?_;exact s9 (i+1) _ u2 o2 (by have:=HD.out;omega) (by omega) (by rfl) (by rfl) (by rfl) (by rfl) (by rfl) (by rfl) (by rfl) A c9 L
  simp only[qoA,qi0,sub] at Q ⊢;have s8:=qhw Q;clear Q;walk_nrm;refine EL.sp D a j λT=>?_;go_wp2;refine EL.tape (wq:=wq) ?_ T;refine EL.seq D a j ?_;refine EL.sp D a j λT=>?_;go_wp2;refine EL.tape (wq:=wq) ?_ T;refine EL.cond D a j false (by rfl) ?_;simp only[if_false,qiC];refine EL.skip D a j ?_;refine EL.seq D a j ?_;refine EL.sp D a j λT=>?_;go_wp2;refine EL.tape (wq:=wq) ?_ T;refine EL.block D a j ?_;refine EL.loop D a j ?_;exact s8 (ws.length - p) p _ wq N rfl (by omega) (by rfl) (by rfl) (by rfl) (by rfl) (by rfl) (by rfl) (by rfl) (Jh _ _) hO rfl
end
end
section
open Go Go.RowKit Go.Co Go.Sim Go.Conc Go.ConcN
def qf3(x:Array qhC)(h:x.size=21):∃A z y w v u s r q p o n l k j i g d c b a,x=#[A,z,y,w,v,u,s,r,q,p,o,n,l,k,j,i,g,d,c,b,a]:=by
 have e:=Z2 x;rw[h] at e;exact⟨_,_,_,_,_,_,_,_,_,_,_,_,_,_,_,_,_,_,_,_,_,e.t rfl⟩
def tpg{w u:qhy}{T:Nat->qk9->Nat}{r:Option Nat}(h:(w.tp T).gb u r):(w.tp u.tape).gb u r:=⟨h.os,rfl,h.output,h.size,h.block⟩
def qcd{w u v:qhy}{O:Nat}(h:(w.tp u.tape).gb u none)(k:(u.tp v.tape).gb v (some O))(b:w.heap.size<=O):(w.tp v.tape).gb v none :=
 ⟨k.os.trans h.os,rfl,k.output.trans h.output,qi1 h.size k.size,λi a _=>(k.block i (qia a h.size) (by intro e;cases e;exact absurd a (by show ¬ O<w.heap.size;omega))).t (h.block i a (by simp))⟩
def Qa.knone{w u:qhy}{O Y L:Nat}{e:Option qj5}{g:List Par}{d:Nat}{a:Int}{j:Option qj5}{l:List Int}{i:Nat}(h:Qa w O Y L e g d a j l i)(k:(w.tp u.tape).gb u none):Qa u O Y L e g d a j l i:=by
 have⟨b,n,c,o⟩:=h.out;exact(h.tp _).kept (k.but _) ⟨b,n,c,bk k o⟩
def qd.knone{w u:qhy}{v:qhC}{l:List Int}(h:qd 0 w.heap.size w v l)(a:(w.tp u.tape).gb u none):qd 0 u.heap.size u v l:=(qd.kept (w:=w.tp u.tape) h a (by simp)).mono (qhz _) a.size
section
variable[J:JunkSet]{f:qjf}{Post:qhC->qhy->Prop}{W:qhy}
def el82(D:Two Ya qi8)(r5:JunkSet.okf 137)(r9:∀i,¬ JunkSet.jk i)(s1:Ya.inits.idxOf? f=none)(s3:∃g,Ya.funcs[f]?=some g/\Tryz.prog.funcs[f]?=some g){ps:List Par}{l q o0:List Int}{yb F:Option qj5}{yc C O Y Lp:Nat}{q2:Int}(r3:q.length<=1000)(k7:∀c:List Int,(∀y∈c,y∈q)->c.length<=q.length->qdd ps l c)(hS:Jp l q){wq:qhy}(hW:Qa wq O Y Lp yb ps yc q2 F l C)(hO:Out wq O o0) :EC Ya qi8 f Post W 82 #[.slice F l.length C,.func (.func 83) #[] #[.pointer (some O),.pointer (some Y),.pointer (some Lp)]] wq λv u=>∃b o,jf (kC ps l) (yG q 0) o0=(b,o)/\v=.bool b/\(wq.tp u.tape).gb u (some O)/\Out u O o:=by
 have j:Ya.funcs[(qir 82).fn]?=Tryz.prog.funcs[(qir 82).fn]?:=zh 82 (by decide);refine EC.of_body1 D (fn:=qqm) (c0:=Tryz.f82.body.getD .skip) (t:=4) Tp.x82 Tryz.func82 (by kernel_rfl) rfl λcs p b6=>?_;have HR:=qhw b6;clear b6;have t4:O<wq.heap.size:=by have⟨b,n,c,h1⟩:=hW.out;exact(qhB.1 h1).1
 simp only[qqm,qi0];walk_nrm;refine EL.sp D p j λT=>?_;go_wp2;obtain⟨h,N⟩:∃h,h=(wq.tp T).heap.size:=⟨_,rfl⟩;rw[<- N];have g1:(wq.tp T).gb (((wq.tp T).alloc (.cells #[.slice F l.length C] 29)).alloc (.cells #[.func (.func 83) #[] #[.pointer (some O),.pointer (some Y),.pointer (some Lp)]] 51)) none:=(qhx _ _ none).t (qhx _ _ none);have l1:(((wq.tp T).alloc (.cells #[.slice F l.length C] 29)).alloc (.cells #[.func (.func 83) #[] #[.pointer (some O),.pointer (some Y),.pointer (some Lp)]] 51)).heap[h]?=some (.cells #[.slice F l.length C] 29 (0,0)):=by rw[N];exact qp (qhH (wq.tp T) _)
 have e1:(((wq.tp T).alloc (.cells #[.slice F l.length C] 29)).alloc (.cells #[.func (.func 83) #[] #[.pointer (some O),.pointer (some Y),.pointer (some Lp)]] 51)).heap[h+1]?=some (.cells #[.func (.func 83) #[] #[.pointer (some O),.pointer (some Y),.pointer (some Lp)]] 51 (0,0)):=by
  have:=qhH ((wq.tp T).alloc (.cells #[.slice F l.length C] 29)) (.cells #[.func (.func 83) #[] #[.pointer (some O),.pointer (some Y),.pointer (some Lp)]] 51);rw[qi6] at this;rw[N];exact this
 generalize ((wq.tp T).alloc (.cells #[.slice F l.length C] 29)).alloc (.cells #[.func (.func 83) #[] #[.pointer (some O),.pointer (some Y),.pointer (some Lp)]] 51)=u1 at g1 l1 e1 ⊢;have d8:=tpg g1;have k9:=hW.ints.knone d8;clear g1;have e9:=qhw (show h=wq.heap.size from N);show EL _ _ _ _ _ _ _;clear N;refine EL.sp D p j λT=>?_;have c1:(u1.tp T).cell? h=some (.slice F l.length C):=q8 l1 rfl;have⟨g5,m6,m5⟩:=qY l1 e1 d8;have g6:=qhw (show qd 0 (u1.tp T).heap.size (u1.tp T) (.slice F l.length C) l from k9);have P:h<(u1.tp T).heap.size:=(qhB.1 l1).1;clear l1 e1 d8 k9;obtain⟨A,I⟩:∃A,A=u1.tp T:=⟨_,rfl⟩;rw[<- I] at g6 c1 P ⊢;have HU:=qhw I;clear I;have k5:A.frozen? ⟨h,0,none⟩=false:=by rw[HU];exact qj g5
 go_wp2_with (first
  | (go_at_call 135;refine(Zt _ _ _ _).mono ?_;rintro e w2 ⟨rfl,rfl⟩)
  | (go_at_call 134;refine(hS A.heap.size (.slice F l.length C) _ (by simp) (by rw[kq];rfl) ((g6.alloc _).mono (qhz _) (by simp))).mono ?_;rintro e w2 ⟨v,rfl,d9,b7,H⟩;obtain⟨Z,V,rfl,-,-⟩:=d9.cell;have c2:=(((qhx A (.cells #[.slice F l.length C] 29) none).t H).cl c1);have z2:=(((qhx A (.cells #[.slice F l.length C] 29) none).t H).frozen_far _ P (by simp)).t k5;have m3:=qhw d9;have a9:=qhw ((qhx A (.cells #[.slice F l.length C] 29) none).t H);have t3:=qhw b7;clear d9 b7 H))
 have r:=qf w2 h 0 (.slice Z q.length V);have b9:w2.heap[h]?=some (.cells #[.slice F l.length C] 29 (0,0)):=bk a9 (by rw[HU];exact g5);have l2:(w2.setCell h (.slice Z q.length V)).heap[h]?=some (.cells #[.slice Z q.length V] 29 (0,0)):=by rw[qg b9];rfl
 have s8:=blk (X:=h+1) a9 (by simp) (by rw[HU];exact m6);have e2:=bk r s8;have i2:=(m3.kept r (λR e=>by cases e;left;rw[qi6];omega)).mono (qix _) r.size;have e7:(wq.tp (w2.setCell h (.slice Z q.length V)).tape).gb (w2.setCell h (.slice Z q.length V)) none:=by
  have a:=a9.out;rw[HU] at a;exact qcd m5 (tpg ((a.but (some h)).t r)) (by rw[e9];exact qhz _)
 show EL _ _ _ _ _ _ _;generalize w2.setCell h (.slice Z q.length V)=u2 at r l2 e2 i2 e7 ⊢;clear b9 m3 a9 t3 c2 z2 r k5 HU g6 c1 P m5 m6 g5;refine EL.sp D p j λT=>?_;go_wp2;obtain⟨s,a7⟩:∃s,s=(u2.tp T).heap.size:=⟨_,rfl⟩;rw[<- a7];have g3:(u2.tp T).gb ((u2.tp T).alloc (.cells #[.nilFunc] 151)) none:=qhx _ _ none;have p3:((u2.tp T).alloc (.cells #[.nilFunc] 151)).heap[s]?=some (.cells #[.nilFunc] 151 (0,0)):=by rw[a7];exact qhH (u2.tp T) _
 have l3:=bk g3 (show(u2.tp T).heap[h]?=_ from l2);have e3:=bk g3 (show(u2.tp T).heap[h+1]?=_ from e2);have e6:=gb e7 (tpg g3);have i3:=i2.knone (tpg g3);have x0:h<s:=by rw[a7];exact(qhB.1 l2).1
 show EL _ _ _ _ _ _ _;generalize (u2.tp T).alloc (.cells #[.nilFunc] 151)=u3 at g3 p3 l3 e3 e6 i3 ⊢;clear g3 l2 e2 i2 a7 e7;refine EL.sp D p j λT=>?_;have c3:(u3.tp T).cell? s=some .nilFunc:=q8 p3 rfl;have z3:(u3.tp T).frozen? ⟨s,0,none⟩=false:=qj p3;have v6:∀(a:qj5) (fn:Fn) (x y:Array qhC) (m:Mode) (w:qhy),(store a (.func fn x y) m).run Ya w=stored Ya w a (.func fn x y) m:=λa fn x y m w=>run_store _ w a _ m rfl;go_wp2;have r:=qf (u3.tp T) s 0 (.func (.func 136) #[] #[.pointer (some (h+1:Nat)),.pointer (some h),.pointer (some s)]);have p4:((u3.tp T).setCell s (.func (.func 136) #[] #[.pointer (some (h+1:Nat)),.pointer (some h),.pointer (some s)])).heap[s]?=some (.cells #[.func (.func 136) #[] #[.pointer (some (h+1:Nat)),.pointer (some h),.pointer (some s)]] 151 (0,0)):=by
  rw[qg (show(u3.tp T).heap[s]?=_ from p3)];rfl
 have l4:=blk r (by simp;omega) (show(u3.tp T).heap[h]?=_ from l3);have e4:=blk r (λe=>kW (show(u3.tp T).heap[h+1]?=_ from e3) (show(u3.tp T).heap[s]?=_ from p3) (by decide) (by cases e;rfl)) (show(u3.tp T).heap[h+1]?=_ from e3);have i4:qd 0 ((u3.tp T).setCell s (.func (.func 136) #[] #[.pointer (some (h+1:Nat)),.pointer (some h),.pointer (some s)])).heap.size ((u3.tp T).setCell s (.func (.func 136) #[] #[.pointer (some (h+1:Nat)),.pointer (some h),.pointer (some s)])) (.slice Z q.length V) q:=by
  obtain⟨base,s9,e,hl,hr⟩:=i3;refine⟨base,s9,e,hl,λr7=>?_⟩;have⟨B,o,cs,fr,e1,e2,e3,e4,e5⟩:=hr r7;exact⟨B,o,cs,fr,e1,e2,qia e3 r.size,blk r (λe=>kW (show(u3.tp T).heap[B]?=_ from e4) (show(u3.tp T).heap[s]?=_ from p3) (by decide) (by cases e;rfl)) e4,e5⟩
 have U:=qcd e6 (tpg r) (by have:=e9.out;omega);show EL _ _ _ _ _ _ _;generalize (u3.tp T).setCell s (.func (.func 136) #[] #[.pointer (some (h+1:Nat)),.pointer (some h),.pointer (some s)])=u4 at r p4 l4 e4 i4 U ⊢;clear r c3 z3 p3 l3 e3 e6 i3;have hG:YN u4 (h+1) h s O Y Lp Z V q:=⟨e4,l4,i4,p4,by have:=e9.out;omega⟩;have s5:=hW.knone U;have k8:=hO.kept U;have m4:=qhw U;clear e4 i4 p4 U;have d6:∀(d:Nat) (k:Nat) (z:Array qhC) (u:qhy) (o:List Int),d=q.length+1 - k->k<=q.length+1->z.size=21->z[5]?=some (.pointer (some s))->z[13]?=some (.int .i64 (q.length+1:Nat))->z[14]?=some (.int .i64 k) ->
   (u4.tp u.tape).gb u (some O)->Out u O o->jf (kC ps l) (yG q 0) o0=jf (kC ps l) (yG q k) o ->
   EL Ya qi8 f Post W (G ((qir 82).at ⟨z,[]⟩ (.code (sub [1,1,1,1,0,1,0,0] (Tryz.f82.body.getD .skip))::.inLoop (sub [1,1,1,1,0,1,0,0] (Tryz.f82.body.getD .skip))::.inBlock 0::.code (sub [1,1,1,1,1] (Tryz.f82.body.getD .skip))::[])) cs) u:=by
  intro d;induction d with
  | zero=>
   intro k z u o hd hk hz h5 S Q hg a6 L;obtain⟨y0,y1,y2,y3,y4,y5,y6,y7,y8,y9,q0,p9,p8,p7,p6,p5,n9,n8,n7,n6,n4,rfl⟩:=qf3 z hz;clear hz;simp at h5 S Q;subst h5 S Q;have e8:=qhw L;have r6:¬ (k:Int)<(q.length:Int)+1:=by omega
   have s2:q.length+1<=k:=by omega
   clear hd L;simp only[qqm,qi0,sub];refine EL.sp D p j λT=>?_;go_wp2;refine EL.tape (wq:=u) ?_ T;refine EL.seq D p j ?_;refine EL.cond D p j false (by rfl) ?_;simp only[if_false,qiC];refine EL.exit D p j rfl ?_;refine EL.sp D p j λT=>?_;go_wp2;refine EL.tape (wq:=u) ?_ T;refine EL.retS D p j ?_;refine HR _ _ u ⟨false,o,?_,rfl,gb (qg0 _ m4) hg,a6⟩;rw[e8,q44 s2];rfl
  | succ d d7=>
   intro k z u o hd hk hz h5 S Q hg a6 L;obtain⟨y0,y1,y2,y3,y4,y5,y6,y7,y8,y9,q0,p9,p8,p7,p6,p5,n9,n8,n7,n6,n4,rfl⟩:=qf3 z hz;clear hz;simp at h5 S Q;subst h5 S Q;have e8:=qhw L;have r6:(k:Int)<(q.length:Int)+1:=by omega
   have r8:k<q.length+1:=by omega
   have HD:=qhw hd;clear hd L;have l5:=hG.gw hg k8;have s4:=s5.gr hg a6;simp only[qqm,qi0,sub] at d7 ⊢;have t2:=qhw d7;clear d7;refine EL.sp D p j λT=>?_;go_wp2;refine EL.tape (wq:=u) ?_ T;refine EL.seq D p j ?_;refine EL.cond D p j true (by rfl) ?_;simp only[if_true];refine EL.skip D p j ?_;refine EL.seq D p j ?_;refine EL.block D p j ?_;refine EL.sp D p j λT=>?_;go_wp2;refine EL.tape (wq:=u) ?_ T;refine EL.seq D p j ?_;refine EL.region D p j ?_;simp only[qiu,qi3,qi7,qii,qib,qiz,qj9];refine EL.list D p j [0,1] [_,_] (rest:=[2]) rfl λT=>?_;have c1:(u.tp T).cell? s=some (.func (.func 136) #[] #[.pointer (some (h+1:Nat)),.pointer (some h),.pointer (some s)]):=q8 l5.gr rfl;go_wp2;refine EL.tape (wq:=u) ?_ T;refine EL.enter D p j (fk:=136) (args:=#[.slice none ([]:List Int).length 0,.int .i64 (0:Nat),k,.pointer (some (h+1:Nat)),.pointer (some h),.pointer (some s)]) rfl rfl (λT=>by rw[xH (f:=136) rfl rfl Tp.x136 (by kernel_rfl) rfl];walk_nrm;rfl) (zh 136 (by decide)) ?_;refine qhb D r5 r9 s1 s3 r3 k7 k [] 0 none 0 u o (by simp;omega) (by simp) l5 s4 a6 (qd.nil _ _ _) (λad n c e=>by cases e) (qhz _) (.inr rfl) (by omega) _ cs p j λv u2 hR=>?_;obtain⟨b,o2,r4,rfl,H,b8⟩:=hR;rw[qkm];walk_nrm;have M:(u4.tp u2.tape).gb u2 (some O):=gb hg H;have b0:jf (kC ps l) (yG q 0) o0=if b=true then(b,o2) else jf (kC ps l) (yG q (k+1)) o2:=by
    rw[e8,Jy r8,q1b,r4]
   refine EL.region_end D p j ?_;cases b with
   | true=>
    refine EL.cond D p j true (by rfl) ?_;simp only[if_true];refine EL.sp D p j λT=>?_;go_wp2;refine EL.tape (wq:=u2) ?_ T;refine EL.retS D p j ?_;exact HR _ _ u2 ⟨true,o2,b0,rfl,gb (qg0 _ m4) M,b8⟩
   | false=>
    refine EL.cond D p j false (by rfl) ?_;simp only[if_false,qiC];refine EL.skip D p j ?_;refine EL.inBlock D p j ?_;have v5:IntKind.i64.wrap ((k:Int)+1)=((k+1:Nat):Int):=by simp[qnE];omega
    refine EL.piece D p j λT=>?_;go_wp2;refine EL.tape (wq:=u2) ?_ T;refine EL.inLoop D p j ?_;exact t2 (k+1) _ u2 o2 (by have:=HD.out;omega) (by omega) (by rfl) (by rfl) (by rfl) (by rfl) M b8 b0
 simp only[qqm,qi0,sub] at d6;have t1:=qhw d6;clear d6;have v4:IntKind.i64.wrap ((q.length:Int)+1)=((q.length+1:Nat):Int):=by simp[qnE];omega
 refine EL.seq D p j ?_;refine EL.sp D p j λT=>?_;have c4:(u4.tp T).cell? h=some (.slice Z q.length V):=q8 l4 rfl;go_wp2;refine EL.tape (wq:=u4) ?_ T;refine EL.block D p j ?_;refine EL.loop D p j ?_;exact t1 (q.length+1) 0 _ u4 o0 rfl (by omega) (by rfl) (by rfl) (by rfl) (by rfl) (Jh _ _) k8 rfl
end
end
section
open Go Go.RowKit Go.Co Go.Sim Go.Conc Go.ConcN
def qn.knone{w u:qhy}{v:qhC}{l:List Par}(h:qn 0 w.heap.size w v l)(a:(w.tp u.tape).gb u none):qn 0 u.heap.size u v l:=(qn.kept (w:=w.tp u.tape) h a (by simp)).mono (qhz _) a.size
def qU.knone{w u:qhy}{v:qhC}(h:qU w v)(a:(w.tp u.tape).gb u none):qU u v:=λj n c e=>by
 have⟨i,g,f,d,b⟩:=h j n c e;exact⟨i,g,f,bk a d,b⟩
section
variable[J:JunkSet]{f:qjf}{Post:qhC->qhy->Prop}{W:qhy}
def EC.of_body2(D:Two Ya qi8){e:qjf}{fn:Func}{c0:qkk}{b:Array qhC}{j:qhy}{R:qhC->qhy->Prop}{t t':Nat}(n:Ya.funcs[e]?=some fn)(l:Tryz.prog.funcs[e]?=some fn)(i:fn.body=some c0)(k:fn.results=#[.tmp t,.tmp t'])(h:∀g,Bot f g->(∀c a u,R (.tuple #[c.getD t qhE,c.getD t' qhE]) u->EL Ya qi8 f Post W (G { (qir e).at ⟨c,[]⟩ a with mode:=.returning } g) u) ->EL Ya qi8 f Post W (G ((qir e).at ⟨b++qj4 (fn.ntmps - b.size) qhE,[]⟩ [.code c0]) g) j):EC Ya qi8 f Post W e b j R :=
 EC.of_body D n l i λg o d=>h g o λc a u p=>d ⟨c,[]⟩ a u _ rfl (λT=>results_tmp2 k _ _ _) p
def el29(D:Two Ya qi8)(a9:JunkSet.okf 137)(b6:∀i,¬ JunkSet.jk i)(b7:Ya.inits.idxOf? f=none)(c8:∃g,Ya.funcs[f]?=some g/\Tryz.prog.funcs[f]?=some g){d:List Par}{l ws:List Int}{j n:Option qj5}{h k:Nat}{a:Int}(a7:ws.length<=1000)(I:∀c:List Int,(∀y∈c,y∈ws)->c.length<=ws.length->qdd d l c)(hS:Jp l ws)(hY:YOk d a)(hP:POk d a l){wq:qhy}(A:qn 0 wq.heap.size wq (.slice j d.length h) d)(yi:qU wq (.slice j d.length h))(B:qd 0 wq.heap.size wq (.slice n l.length k) l)(pi:qU wq (.slice n l.length k))(h0:qZ wq 0) :EC Ya qi8 f Post W 29 #[.agg #[.slice j d.length h,a],.slice n l.length k] wq λv u=>∃o s,v=.tuple #[s,.int .i64 0]/\(∃b,jf (kC d l) (yG ws 0) []=(b,o))/\(wq.tp u.tape).gb u none/\qd 0 u.heap.size u s o:=by
 have p:Ya.funcs[(qir 29).fn]?=Tryz.prog.funcs[(qir 29).fn]?:=zh 29 (by decide);refine EC.of_body2 D (fn:=Tryz.f29) (c0:=Tryz.f29.body.getD .skip) (t:=4) (t':=5) Tp.x29 Tryz.func29 (by kernel_rfl) rfl λcs q C=>?_;have HR:=qhw C;clear C;simp only[Tryz.f29,qi0];walk_nrm;refine EL.sp D q p λT=>?_;go_wp2;obtain⟨X,L⟩:∃X,X=(wq.tp T).heap.size:=⟨_,rfl⟩;rw[<- L];have g1:(wq.tp T).gb (((wq.tp T).alloc (.cells #[.slice j d.length h,a] 24)).alloc (.cells #[.slice n l.length k] 29)) none:=(qhx _ _ none).t (qhx _ _ none);have Q:(((wq.tp T).alloc (.cells #[.slice j d.length h,a] 24)).alloc (.cells #[.slice n l.length k] 29)).heap[X]?=some (.cells #[.slice j d.length h,a] 24 (0,0)):=by rw[L];exact qp (qhH (wq.tp T) _)
 have U:(((wq.tp T).alloc (.cells #[.slice j d.length h,a] 24)).alloc (.cells #[.slice n l.length k] 29)).heap[X+1]?=some (.cells #[.slice n l.length k] 29 (0,0)):=by
  have:=qhH ((wq.tp T).alloc (.cells #[.slice j d.length h,a] 24)) (.cells #[.slice n l.length k] 29);rw[qi6] at this;rw[L];exact this
 show EL _ _ _ _ _ _ _;generalize ((wq.tp T).alloc (.cells #[.slice j d.length h,a] 24)).alloc (.cells #[.slice n l.length k] 29)=u1 at g1 Q U ⊢;have x:=tpg g1;clear g1;have HX:=qhw (show X=wq.heap.size from L);clear L;refine EL.sp D q p λT=>?_;have c1:(u1.tp T).cell? X=some (.slice j d.length h):=q8 Q rfl;have c2:(u1.tp T).cell? ⟨X,1,none⟩=some (.int .i64 a):=q8 Q rfl;have c3:(u1.tp T).cell? (X+1:Nat)=some (.slice n l.length k):=q8 U rfl;have M:=qhw (show qn 0 (u1.tp T).heap.size (u1.tp T) (.slice j d.length h) d from(show qn 0 u1.heap.size u1 (.slice j d.length h) d from A.knone x));have N:=qhw (show qd 0 (u1.tp T).heap.size (u1.tp T) (.slice n l.length k) l from(show qd 0 u1.heap.size u1 (.slice n l.length k) l from B.knone x));go_wp2_with (go_at_call 81;refine(kG 0 _ _ _ d a l _ M N (qhz _) hY hP).mono ?_;rintro e R ⟨rfl,H⟩;have P:=qhw H;clear H);obtain⟨Y,F⟩:∃Y,Y=R.heap.size:=⟨_,rfl⟩;rw[<- F];have w:(u1.tp T).gb (R.alloc (.cells #[.slice j d.length h,a] 91)) none:=P.out.t (qhx _ _ none);have G:=gb x (tpg w);have V:(R.alloc (.cells #[.slice j d.length h,a] 91)).heap[Y]?=some (.cells #[.slice j d.length h,a] 91 (0,0)):=by rw[F];exact qhH _ _
 have S:=bk w (show(u1.tp T).heap[X+1]?=_ from U);show EL _ _ _ _ _ _ _;generalize R.alloc (.cells #[.slice j d.length h,a] 91)=u2 at w G V S ⊢;clear w F P c1 c2 c3 M N Q U x;refine EL.seq D q p ?_;refine EL.sp D q p λT=>?_;go_wp2;refine EL.tape (wq:=u2) ?_ T;refine EL.cond D q p false (by rfl) ?_;simp only[if_false,qiC];refine EL.skip D q p ?_;refine EL.sp D q p λT=>?_;go_wp2;obtain⟨O,z⟩:∃O,O=(u2.tp T).heap.size:=⟨_,rfl⟩;rw[<- z];have w:(u2.tp T).gb ((u2.tp T).alloc (.cells #[.slice none 0 0] 29)) none:=qhx _ _ none;have r:=gb G (tpg w);have o3:((u2.tp T).alloc (.cells #[.slice none 0 0] 29)).heap[O]?=some (.cells #[.slice none 0 0] 29 (0,0)):=by rw[z];exact qhH _ _
 have y3:=bk w (show(u2.tp T).heap[Y]?=_ from V);have Z:=bk w (show(u2.tp T).heap[X+1]?=_ from S);have b0:O≠X+1:=by
  have h1:=(qhB.1 (show(u2.tp T).heap[X+1]?=_ from S)).1;omega
 show EL _ _ _ _ _ _ _;generalize (u2.tp T).alloc (.cells #[.slice none 0 0] 29)=u3 at w r y3 Z o3 ⊢;have e5:=qhw z;clear w V S z;have d6:Out u3 O []:=⟨none,0,0,o3,qd.nil _ _ _⟩;have c9:Qa u3 O Y (X+1) j d h a n l k:=⟨⟨_,_,_,o3⟩,y3,Z,b0,A.knone r,yi.knone r,B.knone r,pi.knone r,by
  obtain⟨cs,e,g,h0,b8⟩:=h0;exact⟨cs,e,g,bk r h0,b8⟩⟩
 refine EL.seq D q p ?_;refine EL.region D q p ?_;simp only[qiu,qi3,qi7,qii,qib,qiz,qj9];refine EL.list D q p [0,1] [_,_] (rest:=[2]) rfl λT=>?_;have c1:(u3.tp T).cell? (X+1:Nat)=some (.slice n l.length k):=q8 Z rfl;go_wp2;refine EL.tape (wq:=u3) ?_ T;refine EL.enter D q p (fk:=82) (args:=#[.slice n l.length k,.func (.func 83) #[] #[.pointer (some O),.pointer (some Y),.pointer (some (X+1:Nat))]]) rfl rfl (λT=>by rw[qnj (f:=82) rfl Tp.x82 (by kernel_rfl) rfl];walk_nrm) (zh 82 (by decide)) ?_;refine el82 D a9 b6 b7 c8 a7 I hS c9 d6 _ cs q p λv u hR=>?_;obtain⟨b,o,a8,rfl,b9,d5⟩:=hR;rw[qkm];walk_nrm;refine EL.region_end D q p ?_;refine EL.sp D q p λT=>?_;obtain⟨ob,on,oc,o4,i4⟩:=d5;have c1:(u.tp T).cell? O=some (.slice ob on oc):=q8 o4 rfl;go_wp2;refine EL.tape (wq:=u) ?_ T;refine EL.retS D q p ?_;exact HR _ _ u ⟨o,_,rfl,⟨b,a8⟩,qcd r b9 (by have h1:=G.size;have h2:(wq.tp u2.tape).heap.size=wq.heap.size:=rfl;have h3:=e5.out;rw[h3];exact h1),i4⟩
end
end
section
open Go.RowKit
def q9w(pv:qhC)(U:List Par)(a9:Int)(w:qhy)(hP:qn 0 w.heap.size w pv U)(D:YOk U a9)(H6:∀x:List Int,x.Nodup->(∀y∈x,0<=y/\y<U.length)->POk U a9 x)(G9:∀p∈U,p.tall<=a9)(hN:((yG (zX U.length) 0).flatMap JI).length<=1000)(SL:List (List Int))(M0:SL=vW U (yG (zX U.length) 0))(M4:SL.length<=12)(V5:SL≠[])(L8:∀s∈zK SL.length SL,s≠[]/\∀x∈s,0<=x/\x<5)(f:Nat)(q6:f<=100)(R:List (List Int))(hf:qcg f (zK SL.length SL) (qW (zX U.length)) [([],0)]=some (some R)) :qiw Ya 63 #[.agg #[pv,a9]] w λe w'=>∃v,e=.returned (.tuple #[v,.int .i64 0])/\w.gb w' none/\RowsIn 0 w'.heap.size w' v R:=by
 have⟨i0,L4,G7,G5,G4⟩:=qk1 Tp.info133p;obtain⟨yb,yc,rfl,hyl,-⟩:=hP.cell;have⟨HP,t1,P5,N8,HN,x2,HF,x1⟩:=qca hP D H6 G9 hN M0 hf L8;clear hP D H6 G9 hN M0 hf L8;go_enter Tp.x63,Tryz.ntmps63;go_wp2;refine wp_scope_straight ?_;go_upto_region 4 with(go_at_call 81;refine(kG 0 w.heap.size _ _ U a9 [] _ (HP.kept (qhx _ _ none)) (qd.nil _ _ _) (by simp) t1 (POk.nil U t1.l1)).mono ?_;rintro e F ⟨rfl,N1⟩;have T:=qhw ((qhx w (.cells #[.slice yb U.length yc,a9] 24) none).t N1);clear N1);obtain⟨Y,C6⟩:∃Y,Y=F.heap.size:=⟨_,rfl⟩;obtain⟨w3,u9⟩:∃w3,w3=F.alloc (.cells #[.slice yb U.length yc,a9] 91):=⟨_,rfl⟩;rw[<- C6,<- u9];have r6:w3.heap[Y]?=some (.cells #[.slice yb U.length yc,a9] 91 (0,0)):=by rw[u9,C6];exact qhH _ _
 have w8:w.gb w3 none:=T.out.t (by rw[u9];exact qhx _ _ none);have⟨D5,t6⟩:=qF r6 w8;have q0:=q8 r6 (o:=0) rfl;have q1:=q8 r6 (o:=1) rfl;have P8:=qhw ((HP.kept w8).mono (qhz _) w8.size);clear C6 u9 r6 w8;go_wp2;go_loopw [29] (λiv wr=>∃k:Nat,iv=.int .i64 k/\k<=U.length/\w3.gb wr none) (λiv _=>(U.length - qj7 iv).toNat)
 case atStart=>exact⟨0,rfl,by omega,qi2 _ _⟩
 case round=>
  obtain⟨k,rfl,hk,hG⟩:=hrel;have HG:=qhw hG;have E0:=P8.out.kept hG;have S9:=hG.cl q0;have S8:=hG.cl q1;have V4:Y<wr.heap.size:=by have:=qz D5;have:=hG.size;omega
  clear hG;by_cases v3:k<U.length
  ·obtain⟨b2,c2,he,-,hc⟩:=E0.cell;cases he;obtain⟨YB,yo,rfl,hY1,hY2,r6,k0⟩:=hc (by intro e;rw[e] at v3;simp at v3);have⟨p,hp,p0,p1,p2,p3⟩:=k0 k (by omega);have hpt:=N8.out p (qih hp);have L1:(k:Int)<(U.length:Int):=by omega
   clear hc k0 hp E0;go_wp2;go_roundw
   case rel=>exact⟨k+1,by simp,by omega,HG.t (qhx _ _ _)⟩
   case measure=>simp[qj7];omega
  ·obtain rfl:k=U.length:=by omega
   clear E0;go_upto_region 11 with(fail);obtain⟨Sg,C8⟩:∃Sg,Sg=wr.heap.size:=⟨_,rfl⟩;obtain⟨w4,u7⟩:∃w4,w4=wr.alloc (.cells #[.slice none 0 0] 36):=⟨_,rfl⟩;rw[<- C8,<- u7];have N5:w4.heap[Sg]?=some (.cells #[.slice none 0 0] 36 (0,0)):=by rw[u7,C8];exact qhH _ _
   have s1:w3.gb w4 none:=HG.out.t (by rw[u7];exact qhx _ _ none);have k0:=bk s1 D5;have hwB:w.heap.size<=Sg:=by have:=t6.out.size;have:=HG.out.size;omega
   have⟨E4,s5⟩:=qF N5 k0;have e4:=qhw (t6.t s1);have P7:=qhw ((HP.kept (t6.t s1)).mono (qhz _) (t6.t s1).size);have c0:=q8 k0 (o:=0) rfl;have c1:=q8 k0 (o:=1) rfl;clear C8 u7 N5 s1 k0 D5 q0 q1 S9 S8 V4;have hn:U.length<=1000:=by have:=t1.out.len;omega
   go_upto_region 12 with(first
    | (go_at_call 100;refine(vp yb U.length yc a9 w4 hn).mono ?_;rintro e w5 ⟨v5,rfl,N0,D3⟩;obtain⟨b5,k5,e5,-,-⟩:=D3.cell;rw[zN] at e5;subst e5;have L:=qhw N0;have Q5:=qhw D3;clear N0 D3)
    | (go_at_call 82;refine(qef (bk L s5) ((P7.kept L).mono (qhz _) L.size) (bk L E4) t1 P5 HN (Q5.mono (qix _) (qhz _))).mono ?_;rintro e w6 ⟨rfl,G6,N3⟩;have e6:=qhw N3;clear N3))
   have⟨SB,sc,d9,M2,l7⟩:=e6.out.rows (by rw[<- x2];exact V5) (by rw[<- x2];omega);rw[<- x2] at d9 l7;have Q:w.gb w6 none:=⟨e6.os.trans (e4.t L).os,e6.tape.trans (e4.t L).tape,e6.output.trans (e4.t L).output,qi1 (e4.t L).size e6.size,λk hk _=>(e6.keep k (qia hk (e4.t L).size) (by omega)).t ((e4.t L).block k hk (by simp))⟩;have C7:w6.heap[Y]?=_:=(e6.keep Y (qz (bk L s5)) (λe=>by have h:=s5.out;rw[e,E4] at h;injection h with h;injection h with _ h _;exact absurd h (by decide))).t (bk L s5);have U6:=l7;obtain⟨csS,n6,-⟩:=U6;have M1:SB<w6.heap.size:=qz n6;have⟨R1,N7,P1,P3⟩:=zI Q C7 d9 l7;have U2:w.heap.size<=SB:=by have:=(e4.t L).size;omega
   have L9:SB≠Sg:=λe=>by rw[e,d9] at n6;injection n6 with h;injection h with _ h _;exact absurd h (by decide)
   have C9:SB≠Y:=λe=>by rw[e,C7] at n6;injection n6 with h;injection h with _ h _;exact absurd h (by decide)
   have Q3:=qhw (show w5.heap.size<=SB from M2);have c6:=q8 d9 (o:=0) rfl;clear Q C7 d9 l7 M2 c0 c1 e6 n6;go_upto_region 13 with(go_at_call 121;refine(qbf _ _ SB 0 sc SL w6 P3 (qhz _) M4).mono ?_;rintro e w7 ⟨rfl,M9,M6⟩;have c3:=qhw M9;have P2:=qhw M6;clear M9 M6);have v6:=blk c3 (by simpa using λe=>C9 e.symm) N7;have M3:=blk c3 (by simpa using λe=>L9 e.symm) P1;have⟨HY7,P0⟩:=qF v6 M3;have b6:w.gb w7 none:=Q0 R1 c3 U2;have R0:=qhw b6;have d0:=q8 v6 (o:=0) rfl;have d1:=q8 v6 (o:=1) rfl;clear v6 M3 c6 b6;have h5:∀x∈zX U.length,0<=x/\x<5:=λx hx=>by have:=KD hx;have:=t1.out.len;omega
   have H5:=qhw h5;clear h5;go_upto_region 14 with(first
    | (go_at_call 100;refine(vp yb U.length yc a9 w7 hn).mono ?_;rintro e w9 ⟨v9,rfl,M8,D2⟩;obtain⟨b9,k9,e9,-,-⟩:=D2.cell;rw[zN] at e9;subst e9;have x4:=qhw M8;have Q4:=qhw D2;clear M8 D2)
    | (go_at_call 123;refine(JE _ _ _ _ w9 Q4 H5).mono ?_;rintro e w10 ⟨rfl,rfl⟩))
   obtain⟨S,hS⟩:∃S,S=zK SL.length SL:=⟨_,rfl⟩;have k6:S.length=SL.length:=by rw[hS,Yp]
   rw[<- hS] at HF x1;obtain⟨al,L6⟩:∃al,al=qW (zX U.length):=⟨_,rfl⟩;rw[<- L6] at HF ⊢;have M5:RowsIn 0 w9.heap.size w9 (.slice (some SB) S.length sc) S:=by
    have h1:zn w5.heap.size w6.heap.size SB 0 w7 S:=by rw[hS];exact P2
    have h2:=h1.rows M1 Q3 (by omega) sc;exact(h2.kept x4).mono (qix _) (qi1 c3.size x4.size)
   rw[<- k6] at P0;have L5:w.gb w9 none:=R0.out.t x4;have B8:=bk x4 P0;have c9:=q8 B8 (o:=0) rfl;have hSg9:=qz B8;have⟨W5,X1,W4⟩:=qY M5 L5 k6;have r7:S.length<=12:=by omega
   clear hS L6 M5 L5 B8 k6 x2 N8 HN P5 HP P8 P7 E4 s5 N7 P1 P3 P2 Q5 Q4 T t6 e4 L R1 c3 R0 HG d0 d1 Q3 H5;go_upto_region 15 with(fail);have N4:q7k S al R (.slice (some w9.heap.size) 1 1) (w9.alloc (.cells #[.slice none 0 0,.int .u8 0] 133)) f:=by
    refine⟨[([],0)],⟨_,1,rfl,λ_=>⟨w9.heap.size,0,_,_,rfl,by simp,qhH _ _,λi hi=>?_⟩⟩,⟨by simp,λp hp=>?_⟩,λp hp=>?_,HF⟩
    ·obtain rfl:i=0:=by simp at hi;omega
     exact⟨([],0),_,_,rfl,rfl,rfl,⟨none,0,rfl,by simp,λh=>absurd rfl h⟩,rfl,λa n c e=>by cases e;omega⟩
    ·obtain rfl:p=([],0):=by simpa using hp
     simp
    ·obtain rfl:p=([],0):=by simpa using hp
     simpa using q6
   have X2:=qhw N4;clear N4;refine wp_label ?_;go_wp2;go_loopw [10] (λnv wr=>(∃m,m<=100/\q7k S al R nv wr m)/\w9.gb wr none) (λnv wr=>q7x S al R nv wr)
   case atStart=>exact⟨⟨f,q6,X2⟩,qhx _ _ none⟩
   case round=>
    obtain⟨wo,rfl⟩:∃x,x=wr:=⟨wr,rfl⟩;obtain⟨⟨m,hm,hP⟩,hg⟩:=hrel;have hQ:=q6q hm hP;have U9:=q4l hm hP;obtain⟨m0,C3⟩:∃m0,m0=q7x S al R u10 wo:=⟨_,rfl⟩;rw[<- C3] at hQ U9;obtain⟨u,m8,p7,H1,l6⟩:=hQ;have H3:=m8;obtain⟨nb,nc,rfl,-⟩:=H3;cases m0 with
    | zero=>cases l6
    | succ n=>
     simp only[qcg] at l6;have⟨X0,HG,W6,s6,D7,A0⟩:=KX C3 hg m8 p7 H1 l6;have U5:=p7.1;have U8:n<100:=by omega
     clear hm hP hg C3 m8 p7 H1 l6;go_wp2;go_loopw [11,53] (λnx iv wq=>∃k:Nat,iv=.int .i64 k/\k<=u.length/\(∀p∈u.take k,p.2≠al)/\wo.gb wq none/\jO wo.heap.size wq nx (ju S (u.take k))) (λ_ iv _=>(u.length - qj7 iv).toNat)
     case atStart=>exact⟨0,rfl,by omega,by simp,qi2 _ _,jO.nil _ _⟩
     case round=>
      obtain⟨k,rfl,hk,K6,C5,g7⟩:=hrel;have t5:=qhw C5;have X:=C5;have⟨E2,x3⟩:=qF K6 g7;clear C5 K6 g7;by_cases v3:k<u.length
      ·obtain⟨RB,ro,p,pa,pn,pc,rfl,H8,H7,r1,r2,r3,r4⟩:=W6.out.at v3;have V2:=X.cl r1;have V1:=X.cl r2;have L1:(k:Int)<(u.length:Int):=by omega
       obtain⟨b,d⟩:=p;dsimp only at r1 r2 r3 r4 H7;subst H7;have N6:=(HG.t X).cl c9;have hSgk:Sg<wr.heap.size:=by have:=(HG.t X).size;omega
       go_upto_region 19 with(fail);obtain⟨Z,v8⟩:∃Z,Z=wr.heap.size:=⟨_,rfl⟩;obtain⟨w1,v0⟩:∃w1,w1=wr.alloc (.cells #[.slice pa b.length pc,.int .u8 (d:Nat)] 133):=⟨_,rfl⟩;rw[<- v8,<- v0];have d7:wr.gb w1 none:=by rw[v0];exact qhx _ _ none
       have l4:w1.heap[Z]?=some (.cells #[.slice pa b.length pc,.int .u8 (d:Nat)] 133 (0,0)):=by rw[v0,v8];exact qhH _ _
       have b0:=q8 l4 (o:=0) rfl;have b1:=q8 l4 (o:=1) rfl;have W3:=d7.cl N6;have P4:=qhw r3;have W7:=qhw ((r3.kept (X.t d7)).mono (qhz _) (X.t d7).size);have⟨P6,l9,s9,n7⟩:=zI l4 d7 v8 H8;clear l4 v0 d7 v8 r1 r2 r3 V2 V1 H8 N6 X;by_cases C0:d=al
       ·subst C0;go_wp2;rw[Exit.noGoto_ret];go_ret2;have N:=A0.out;rw[YZ (λp:Rec=>p.2 == d) u k _ n7 (by simp) (λi y hi hy=>by
         have:=E2.out y (qih (by rw[qjC hi];exact hy));simpa using this)] at N
        simp only[qj3] at N;exact⟨_,rfl,X1.t (HG.t (t5.t l9)),by rw[<- N];exact W7⟩
       ·have Y4:((d:Int) == (al:Int))=false:=by rw[beq_eq_false_iff_ne];omega
        have W8:=qhw C0;clear C0;obtain⟨wp,U1⟩:∃x,x=wr:=⟨wr,rfl⟩;have z3:wo.gb w1 none:=t5.out.t l9;have X9:wo.heap.size<=Z:=by have:=t5.out.size;have:=s9.out;omega
        have L0:∀g,u11.ownBlock=some g->g≠Z:=λg e=>by
         obtain⟨C,h1,-,-⟩:=x3.out;have:=(h1.lt g e).2;have:=s9.out;omega
        have Q2:=qhw (x3.kept l9);have⟨Q7,W9⟩:=qF z3 L0;clear U1 z3 L0 x3 l9 t5 s9;go_wp2;clear b0 b1 W3;go_loopw [11,65] (λnx iv wq=>∃j:Nat,iv=.int .i64 j/\j<=S.length/\wo.gb wq none/\wq.heap[Z]?=some (.cells #[.slice pa b.length pc,.int .u8 (d:Nat)] 133 (0,0))/\(∀g,nx.ownBlock=some g->g≠Z)/\jO wo.heap.size wq nx (ju S (u.take k)++((S.take j).filter (okF (b,d))).map (Zd (b,d)))) (λ_ iv _=>(S.length - qj7 iv).toNat)
        case atStart=>exact⟨0,rfl,by omega,Q7,P6,W9,by simpa using Q2.out⟩
        case round=>
         obtain⟨j,rfl,hj,g8,d5,z2,z1⟩:=hrel;have hc9:=q8 (o:=0) d5 rfl;have hc10:=q8 (o:=1) d5 rfl;have⟨b8,a7,a8,l8⟩:=zI g8 d5 z2 z1;have X8:=g8.size;have hPbl:=qz d5;clear d5 z2 z1;by_cases C4:j<S.length
         ·obtain⟨sb',sc',eS,-,v7⟩:=(W5.kept (HG.t g8)).cell;cases eS;obtain⟨SB',so,eS,-,-,-,v7⟩:=v7 (by intro e;rw[e] at C4;simp at C4);cases eS;have⟨s,x,B7,U3,v1⟩:=v7 j C4;rw[qib] at U3;obtain⟨xb,xc,rfl,-,x8⟩:=v1.cell;have⟨x7,H0⟩:=x1.out s (qih B7);obtain⟨XB,xo,rfl,-,-,-,e8⟩:=x8 x7;have B6:0<s.length:=qm9.2 x7;have e8:=e8 0 B6;have Z4:(j:Int)<(S.length:Int):=by omega
          have R7:(0:Int)<(s.length:Int):=by omega
          have p6:=λC (h:World.gb _ C none)=>JE _ _ _ s C (v1.kept h) H0;have C2:=vw s 5 λy hy=>by have:=H0 y hy;omega
          have l5:okF (b,d) s=(!(decide (0<b.length) && decide (Yr s<=Yr (q83 b))) && decide (d &&& qW s=0)):=rfl;have p8:=(s6.2 _ (qih n7)).2.1;have P:=qa4 ⟨d,p8⟩ ⟨qW s,C2⟩;have n4:=qcF ⟨d,p8⟩ ⟨qW s,C2⟩;have q7:Zd (b,d) s=(b++[s],d ||| qW s):=rfl;simp only at P n4 p8;rw[show s[0]?.getD 0=Yr s from rfl] at e8;generalize qW s=ms at p6 C2 l5 P n4 q7;generalize Yr s=hs at e8 l5;have z4:(S.take (j+1)).filter (okF (b,d))=(S.take j).filter (okF (b,d))++(if okF (b,d) s=true then[s] else[]):=by
           rw[qja,B7,qlF];simp[List.filter_cons]
          have⟨t8,a6,A,m3,Q1,A3,N9⟩:=q6C z4 p6 l5 P n4 q7 v1;have s8:=qhw ((P4.kept g8).mono (qhz _) g8.size);clear z4 p6 l5 P n4 q7 v1 v7 B7 g8 x8;have r5:okF (b,d) s=false->∀C,wr.gb C none->jO wo.heap.size C u11 (ju S (u.take k)++((S.take (j+1)).filter (okF (b,d))).map (Zd (b,d))):=λe C h=>by
           rw[t8,e];simpa using l8.out.kept h
          have k8:=qhw r5;clear r5;have x6:w9.heap.size<=wr.heap.size:=(HG.t b8).size;have z0:=D7.out _ (qih n7);dsimp only at z0;have Y3:b.length<=100:=by omega
          clear z0;by_cases v2:0<b.length
          ·have U7:(0:Int)<(b.length:Int):=by omega
           rw[show decide (0<b.length)=true by simpa using v2] at A;simp only[Bool.true_and] at A;obtain⟨lb,lc,el,-,v4⟩:=s8.out.cell;cases el;obtain⟨LB,lo,rfl,-,-,-,v4⟩:=v4 (by intro e;rw[e] at v2;simp at v2);have⟨r,x,m8,hrc,H2⟩:=v4 (b.length - 1) (by omega);have p9:q83 b=r:=by unfold q83;rw[m8];rfl
           have H4:=(s6.2 _ (qih n7)).1 r (qih m8);obtain⟨x9,-⟩:=x1.out r H4;obtain⟨rb,rc,rfl,-,g5⟩:=H2.cell;obtain⟨QB,qo,rfl,-,-,-,g5⟩:=g5 x9;have B9:0<r.length:=qm9.2 x9;have g5:=g5 0 B9;rw[Nat.add_zero] at g5;have e8:=e8;rw[Nat.add_zero] at e8;rw[p9] at A;rw[show r[0]?.getD 0=Yr r from rfl] at g5;have R8:(0:Int)<(r.length:Int):=by omega
           have hwn:IntKind.i64.wrap ((b.length:Int) - 1)=(b.length:Int) - 1:=qiv _ (by omega);have K2:((b.length:Int) - 1).toNat=b.length - 1:=by omega
           have Y8:(0:Int)<=(b.length:Int) - 1:=by omega
           have Y6:(b.length:Int) - 1<(b.length:Int):=by omega
           generalize Yr r=hr at g5 A;clear v4 p9 H4 H2;by_cases L2:hs<=hr
           ·have D:okF (b,d) s=false:=by rw[A];simp[L2]
            have I:=qhw D;clear D;go_upto_region 25 with(fail);go_quiet (first | (go_at_call 123;refine qk7 ((a6 _ (qi _ _ none)).mono (λe w5 h=>⟨h.1,h.2.symm⟩))));go_wp2;exact⟨⟨j+1,by simp,by omega,b8.t (qi _ _ none),a7,a8,k8 I _ (qi _ _ none)⟩,by simp[qj7];omega⟩
           ·rw[show decide (hs<=hr)=false by simpa using L2] at A;simp only[qmF,Bool.true_and] at A;by_cases hz:d &&& ms=0
            ·have B4:(((d &&& ms:Nat):Int) != 0)=false:=by rw[hz];rfl
             have D:okF (b,d) s=true:=by rw[A];simpa using hz
             have I:=qhw D;have P:=m3.out;clear hz D;go_upto_region 25 with(fail);go_quiet (first | (go_at_call 123;refine qk7 ((a6 _ (qi _ _ none)).mono (λe w5 h=>⟨h.1,h.2.symm⟩))));go_upto_region 26 with(fail);have h8:=qi wr nq none;have B5:wr.heap.size=(wr.drewN nq).heap.size:=rfl;generalize wr.drewN nq=wa at h8 B5 ⊢;have g9:wr.gb wa.drew none:=h8.t (q9 wa none);have g6:=bk g9 a7;have s0:wa.drew.cell? Z=some (.slice (some ⟨LB,lo,none⟩) b.length pc)/\wa.drew.cell? ⟨Z,1,none⟩=some (.int .u8 (d:Nat)):=⟨q8 g6 rfl,q8 g6 rfl⟩;have p4:=s0.1;have n9:=s0.2;have⟨C,n1,n2,n3⟩:=l8.out;have⟨oa,om,oc,eo⟩:=zi n1;subst eo;have⟨E3,O,t4,t3⟩:=zI g9 n1 n2 n3;have n4:=Q1.out;have H9:(b.length:Int)<=(pc:Int):=by omega
             have K9:(0:Int)<=(b.length:Int):=by omega
             have D0:(ju S (u.take k)++((S.take j).filter (okF (b,d))).map (Zd (b,d))).length<=20000:=by
              have h1:=q1D S (u.take k);have h2:=qko (okF (b,d)) (S.take j);have h3:(u.take k).length*S.length<=1000*12:=Nat.mul_le_mul (by rw[qkC];omega) r7;rw[qjm,qlB];rw[qkC] at h2;omega
             generalize r8:(ju S (u.take k)++((S.take j).filter (okF (b,d))).map (Zd (b,d)))=RR at O t4 t3 D0;have D6:=qhw r8;have V0:wo.heap.size<=wa.heap.size:=by have:=b8.out.size;omega
             clear h8 g9 g6 n1 n2 n3 r8;refine qr 21 (λw'=>w'.cell? Z=some (.slice (some ⟨LB,lo,none⟩) b.length pc)/\w'.cell? ⟨Z,1,none⟩=some (.int .u8 (d:Nat))) (by kernel_rfl) (by kernel_rfl) s0 (λhHeld=>?_);simp only[qi3,qi7,qii,qiB,qib,qij,qik,qiq,qin,qi9];refine tk 0 (h:=tk 1 (h:=tk 2 (h:=tk 3 (h:=tk 4 (h:=tk 5 (h:=tk 6 (h:=tk 7 (h:=tk 8 (h:=tk 9 (h:=tk 10 (h:=tk 13 (h:=tk 14 (h:=tk 15 (h:=?_))))))))))))));try go_frame
             refine rdc 11 λK hK=>?_;go_simp;refine hK.out _ _ (by first | exact hHeld | exact s7 | exact s2 | exact⟨(qhx _ _ none).cl hHeld.1,(qhx _ _ none).cl hHeld.2⟩) (λhHeld=>?_);refine rdc 12 λK hK=>?_;have M:wr.gb (wa.drew.alloc (.cells #[.slice (some ⟨XB,xo,none⟩) s.length xc] 29)) none:=E3.out.t (qhx _ _ none);refine Kh rfl (.tmp 105) (.tmp 107) rfl (nc:=pc) (B:=wa.heap.size) (y:=.slice (some ⟨XB,xo,none⟩) s.length xc) (l:=s) (by rfl) (by rfl) ((s8.kept M).mono (qhz _) M.size) (kq wa.drew _ _ _) ((N9.kept M).mono (qix _) (qi1 x6 M.size)) (by omega) (λg G F q2 q3 q5=>?_);have h9:=M.t q2;have s2:F.cell? Z=some (.slice (some ⟨LB,lo,none⟩) b.length pc)/\F.cell? ⟨Z,1,none⟩=some (.int .u8 (d:Nat)):=⟨q2.cl ((qhx wa.drew _ none).cell p4 (by simp)),q2.cl ((qhx wa.drew _ none).cell n9 (by simp))⟩;have⟨T,D9,D8⟩:=qY h9 q3 q5;have U4:wa.heap.size<=F.heap.size:=by have:=h9.size;omega
             clear M q2 q3 q5 h9;refine hK.out _ _ (by first | exact hHeld | exact s7 | exact s2 | exact⟨(qhx _ _ none).cl hHeld.1,(qhx _ _ none).cl hHeld.2⟩) (λhHeld=>?_);refine rdc 16 λK hK=>?_;go_simp;go_at_call 123;refine(a6 F T).mono ?_;rintro e w3 ⟨rfl,rfl⟩;refine hK.out _ _ (by first | exact hHeld | exact s7 | exact s2 | exact⟨(qhx _ _ none).cl hHeld.1,(qhx _ _ none).cl hHeld.2⟩) (λhHeld=>?_);refine tk 17 (h:=tk 18 (h:=?_));try go_frame
             refine rdc 19 λK hK=>?_;go_simp;refine hK.out _ _ (by first | exact hHeld | exact s7 | exact s2 | exact⟨(qhx _ _ none).cl hHeld.1,(qhx _ _ none).cl hHeld.2⟩) (λhHeld=>?_);refine rdc 20 λK hK=>?_;have r9:=jT (C:=F) O (λg e=>T.block g (O.lt g e).2 (by simp));refine qn0 _ (by rfl) _ _ _ (by rfl) wo.heap.size 133 i0 _ 2 32 Tp.und134 L4 G7 G5 G4 rfl (by omega) (.slice oa om oc) RR.length (JF C) (by rfl) (by exact r9.alloc _) ⟨F.heap.size,0,none⟩ 1 1 [.slice (some ⟨g,0,none⟩) (b.length+1) G,.int .u8 ((d ||| ms:Nat):Int)] (by rfl) (by rfl) (qjh (cs:=#[.slice (some ⟨g,0,none⟩) (b.length+1) G,.int .u8 ((d ||| ms:Nat):Int)]) (t:=133) (fr:=(0,0)) (qhH F _)) (by simp[qjF]) (by omega) (by unfold qlc;omega) (by omega) (by simp;omega) (F.heap.size+1) (by simp) ?_;intro g' cp w7 V z d8 q4;have h6:(F.alloc (.cells #[.slice (some ⟨g,0,none⟩) (b.length+1) G,.int .u8 ((d ||| ms:Nat):Int)] 133)).gb w7 (qiH oa om oc).ownBlock:=⟨z.os,z.tape,z.output,z.size,z.block⟩;have Q:=T.out.t (qhx F (.cells #[.slice (some ⟨g,0,none⟩) (b.length+1) G,.int .u8 ((d ||| ms:Nat):Int)] 133) none);have b6:wr.gb w7 (qiH oa om oc).ownBlock:=(Q.but _).t h6;have H:=blk b6 (λe=>a8 _ e.symm rfl) a7;have s7:w7.cell? Z=some (.slice (some ⟨LB,lo,none⟩) b.length pc)/\w7.cell? ⟨Z,1,none⟩=some (.int .u8 (d:Nat)):=⟨q8 H rfl,q8 H rfl⟩;have k7:=jT (C:=F.alloc (.cells #[.slice (some ⟨g,0,none⟩) (b.length+1) G,.int .u8 ((d ||| ms:Nat):Int)] 133)) O (λg e=>Q.block g (O.lt g e).2 (by simp));have c8:xw (F.alloc (.cells #[.slice (some ⟨g,0,none⟩) (b.length+1) G,.int .u8 ((d ||| ms:Nat):Int)] 133)) (.slice (some ⟨g,0,none⟩) (b.length+1) G) (.int .u8 ((d ||| ms:Nat):Int)) (b++[s],d ||| ms):=⟨(D9.kept (qhx F _ none)).mono (qhz _) (qhx F _ none).size,rfl,λa n c e=>by cases e;exact D8⟩;have d6:=jO.push k7 t4 (λi p x e1 e2=>(t3 i p x e1 e2).kept Q) h6 V (c8.app k7 h6);have⟨t2,c3,E1,E5⟩:=zI d6 b6 H d8;clear V z d8 q4 h6 Q b6 H r9 k7 c8 d6;refine hK.out _ _ (by first | exact hHeld | exact s7 | exact s2 | exact⟨(qhx _ _ none).cl hHeld.1,(qhx _ _ none).cl hHeld.2⟩) (λhHeld=>?_);try go_frame
             refine⟨by kernel_rfl,?_⟩;simp only[qig,qit];clear s0 p4 n9 s2 s7 hHeld;go_wp2;refine⟨⟨j+1,by simp,by omega,b8.andThen c3 (λi e=>.inl (O.lt i e).1),E1,λi e=>?_,?_⟩,by simp[qj7];omega⟩
             ·obtain rfl:g'=i:=by simpa[qiF] using e
              rcases E5 with h | h
              ·exact a8 _ h
              ·have:=T.out.size;omega
             ·rw[t8,if_pos I.out,qk0,<- qkt,D6,show List.map (Zd (b,d)) [s]=[Zd (b,d) s] from rfl,A3];exact t2
            ·have B4:(((d &&& ms:Nat):Int) != 0)=true:=by simpa using hz
             have D:okF (b,d) s=false:=by rw[A];simpa using hz
             have I:=qhw D;have P:=m3.out;clear hz D;go_upto_region 25 with(fail);go_quiet (first | (go_at_call 123;refine qk7 ((a6 _ (qi _ _ none)).mono (λe w5 h=>⟨h.1,h.2.symm⟩))));go_wp2;exact⟨⟨j+1,by simp,by omega,b8.t (qi _ _ none),a7,a8,k8 I _ (qi _ _ none)⟩,by simp[qj7];omega⟩
          ·have U7:¬ (0:Int)<(b.length:Int):=by omega
           rw[show decide (0<b.length)=false by simpa using v2] at A;simp only[Bool.false_and,qmF,Bool.true_and] at A;by_cases hz:d &&& ms=0
           ·have B4:(((d &&& ms:Nat):Int) != 0)=false:=by rw[hz];rfl
            have D:okF (b,d) s=true:=by rw[A];simpa using hz
            have I:=qhw D;have P:=m3.out;clear hz D;go_upto_region 25 with(fail);go_quiet (first | (go_at_call 123;refine qk7 ((a6 _ (qi _ _ none)).mono (λe w5 h=>⟨h.1,h.2.symm⟩))));go_upto_region 26 with(fail);have h8:=qi wr nq none;have B5:wr.heap.size=(wr.drewN nq).heap.size:=rfl;generalize wr.drewN nq=wa at h8 B5 ⊢;have g9:wr.gb wa.drew none:=h8.t (q9 wa none);have g6:=bk g9 a7;have s0:wa.drew.cell? Z=some (.slice pa b.length pc)/\wa.drew.cell? ⟨Z,1,none⟩=some (.int .u8 (d:Nat)):=⟨q8 g6 rfl,q8 g6 rfl⟩;have p4:=s0.1;have n9:=s0.2;have⟨C,n1,n2,n3⟩:=l8.out;have⟨oa,om,oc,eo⟩:=zi n1;subst eo;have⟨E3,O,t4,t3⟩:=zI g9 n1 n2 n3;have n4:=Q1.out;have H9:(b.length:Int)<=(pc:Int):=by omega
            have K9:(0:Int)<=(b.length:Int):=by omega
            have D0:(ju S (u.take k)++((S.take j).filter (okF (b,d))).map (Zd (b,d))).length<=20000:=by
             have h1:=q1D S (u.take k);have h2:=qko (okF (b,d)) (S.take j);have h3:(u.take k).length*S.length<=1000*12:=Nat.mul_le_mul (by rw[qkC];omega) r7;rw[qjm,qlB];rw[qkC] at h2;omega
            generalize r8:(ju S (u.take k)++((S.take j).filter (okF (b,d))).map (Zd (b,d)))=RR at O t4 t3 D0;have D6:=qhw r8;have V0:wo.heap.size<=wa.heap.size:=by have:=b8.out.size;omega
            clear h8 g9 g6 n1 n2 n3 r8;refine qr 21 (λw'=>w'.cell? Z=some (.slice pa b.length pc)/\w'.cell? ⟨Z,1,none⟩=some (.int .u8 (d:Nat))) (by kernel_rfl) (by kernel_rfl) s0 (λhHeld=>?_);simp only[qi3,qi7,qii,qiB,qib,qij,qik,qiq,qin,qi9];refine tk 0 (h:=tk 1 (h:=tk 2 (h:=tk 3 (h:=tk 4 (h:=tk 5 (h:=tk 6 (h:=tk 7 (h:=tk 8 (h:=tk 9 (h:=tk 10 (h:=tk 13 (h:=tk 14 (h:=tk 15 (h:=?_))))))))))))));try go_frame
            refine rdc 11 λK hK=>?_;go_simp;refine hK.out _ _ (by first | exact hHeld | exact s7 | exact s2 | exact⟨(qhx _ _ none).cl hHeld.1,(qhx _ _ none).cl hHeld.2⟩) (λhHeld=>?_);refine rdc 12 λK hK=>?_;have M:wr.gb (wa.drew.alloc (.cells #[.slice (some ⟨XB,xo,none⟩) s.length xc] 29)) none:=E3.out.t (qhx _ _ none);refine Kh rfl (.tmp 105) (.tmp 107) rfl (nc:=pc) (B:=wa.heap.size) (y:=.slice (some ⟨XB,xo,none⟩) s.length xc) (l:=s) (by rfl) (by rfl) ((s8.kept M).mono (qhz _) M.size) (kq wa.drew _ _ _) ((N9.kept M).mono (qix _) (qi1 x6 M.size)) (by omega) (λg G F q2 q3 q5=>?_);have h9:=M.t q2;have s2:F.cell? Z=some (.slice pa b.length pc)/\F.cell? ⟨Z,1,none⟩=some (.int .u8 (d:Nat)):=⟨q2.cl ((qhx wa.drew _ none).cell p4 (by simp)),q2.cl ((qhx wa.drew _ none).cell n9 (by simp))⟩;have⟨T,D9,D8⟩:=qY h9 q3 q5;have U4:wa.heap.size<=F.heap.size:=by have:=h9.size;omega
            clear M q2 q3 q5 h9;refine hK.out _ _ (by first | exact hHeld | exact s7 | exact s2 | exact⟨(qhx _ _ none).cl hHeld.1,(qhx _ _ none).cl hHeld.2⟩) (λhHeld=>?_);refine rdc 16 λK hK=>?_;go_simp;go_at_call 123;refine(a6 F T).mono ?_;rintro e w3 ⟨rfl,rfl⟩;refine hK.out _ _ (by first | exact hHeld | exact s7 | exact s2 | exact⟨(qhx _ _ none).cl hHeld.1,(qhx _ _ none).cl hHeld.2⟩) (λhHeld=>?_);refine tk 17 (h:=tk 18 (h:=?_));try go_frame
            refine rdc 19 λK hK=>?_;go_simp;refine hK.out _ _ (by first | exact hHeld | exact s7 | exact s2 | exact⟨(qhx _ _ none).cl hHeld.1,(qhx _ _ none).cl hHeld.2⟩) (λhHeld=>?_);refine rdc 20 λK hK=>?_;have r9:=jT (C:=F) O (λg e=>T.block g (O.lt g e).2 (by simp));refine qn0 _ (by rfl) _ _ _ (by rfl) wo.heap.size 133 i0 _ 2 32 Tp.und134 L4 G7 G5 G4 rfl (by omega) (.slice oa om oc) RR.length (JF C) (by rfl) (by exact r9.alloc _) ⟨F.heap.size,0,none⟩ 1 1 [.slice (some ⟨g,0,none⟩) (b.length+1) G,.int .u8 ((d ||| ms:Nat):Int)] (by rfl) (by rfl) (qjh (cs:=#[.slice (some ⟨g,0,none⟩) (b.length+1) G,.int .u8 ((d ||| ms:Nat):Int)]) (t:=133) (fr:=(0,0)) (qhH F _)) (by simp[qjF]) (by omega) (by unfold qlc;omega) (by omega) (by simp;omega) (F.heap.size+1) (by simp) ?_;intro g' cp w7 V z d8 q4;have h6:(F.alloc (.cells #[.slice (some ⟨g,0,none⟩) (b.length+1) G,.int .u8 ((d ||| ms:Nat):Int)] 133)).gb w7 (qiH oa om oc).ownBlock:=⟨z.os,z.tape,z.output,z.size,z.block⟩;have Q:=T.out.t (qhx F (.cells #[.slice (some ⟨g,0,none⟩) (b.length+1) G,.int .u8 ((d ||| ms:Nat):Int)] 133) none);have b6:wr.gb w7 (qiH oa om oc).ownBlock:=(Q.but _).t h6;have H:=blk b6 (λe=>a8 _ e.symm rfl) a7;have s7:w7.cell? Z=some (.slice pa b.length pc)/\w7.cell? ⟨Z,1,none⟩=some (.int .u8 (d:Nat)):=⟨q8 H rfl,q8 H rfl⟩;have k7:=jT (C:=F.alloc (.cells #[.slice (some ⟨g,0,none⟩) (b.length+1) G,.int .u8 ((d ||| ms:Nat):Int)] 133)) O (λg e=>Q.block g (O.lt g e).2 (by simp));have c8:xw (F.alloc (.cells #[.slice (some ⟨g,0,none⟩) (b.length+1) G,.int .u8 ((d ||| ms:Nat):Int)] 133)) (.slice (some ⟨g,0,none⟩) (b.length+1) G) (.int .u8 ((d ||| ms:Nat):Int)) (b++[s],d ||| ms):=⟨(D9.kept (qhx F _ none)).mono (qhz _) (qhx F _ none).size,rfl,λa n c e=>by cases e;exact D8⟩;have d6:=jO.push k7 t4 (λi p x e1 e2=>(t3 i p x e1 e2).kept Q) h6 V (c8.app k7 h6);have⟨t2,c3,E1,E5⟩:=zI d6 b6 H d8;clear V z d8 q4 h6 Q b6 H r9 k7 c8 d6;refine hK.out _ _ (by first | exact hHeld | exact s7 | exact s2 | exact⟨(qhx _ _ none).cl hHeld.1,(qhx _ _ none).cl hHeld.2⟩) (λhHeld=>?_);try go_frame
            refine⟨by kernel_rfl,?_⟩;simp only[qig,qit];clear s0 p4 n9 s2 s7 hHeld;go_wp2;refine⟨⟨j+1,by simp,by omega,b8.andThen c3 (λi e=>.inl (O.lt i e).1),E1,λi e=>?_,?_⟩,by simp[qj7];omega⟩
            ·obtain rfl:g'=i:=by simpa[qiF] using e
             rcases E5 with h | h
             ·exact a8 _ h
             ·have:=T.out.size;omega
            ·rw[t8,if_pos I.out,qk0,<- qkt,D6,show List.map (Zd (b,d)) [s]=[Zd (b,d) s] from rfl,A3];exact t2
           ·have B4:(((d &&& ms:Nat):Int) != 0)=true:=by simpa using hz
            have D:okF (b,d) s=false:=by rw[A];simpa using hz
            have I:=qhw D;have P:=m3.out;clear hz D;go_upto_region 25 with(fail);go_quiet (first | (go_at_call 123;refine qk7 ((a6 _ (qi _ _ none)).mono (λe w5 h=>⟨h.1,h.2.symm⟩))));go_wp2;exact⟨⟨j+1,by simp,by omega,b8.t (qi _ _ none),a7,a8,k8 I _ (qi _ _ none)⟩,by simp[qj7];omega⟩
         ·obtain rfl:j=S.length:=by omega
          have hjn:¬ (S.length:Int)<(S.length:Int):=by omega
          clear g8;go_wp2;refine⟨⟨k+1,by simp,by omega,λq hq=>?_,b8,?_⟩,by simp[qj7];omega⟩
          ·rw[qja,n7] at hq;rcases qkn.1 hq with h | h
           ·exact E2 q h
           ·simp at h;subst h;exact W8
          ·rw[q6v n7];have:=l8.out;rw[qjt] at this;exact this
      ·obtain rfl:k=u.length:=by omega
       have K2:(u.find? λp=>p.2 == al)=none:=qmp.2 λp hp=>by have:=E2.out p (by rw[qjt];exact hp);simpa using this
       have N:=A0.out;rw[K2] at N;have L3:(ju S u).length<=1000:=by
        refine qiG λh=>?_;simp only[if_neg h] at N;cases N
       simp only[if_pos L3] at N;have C1:ju S u≠[]:=λh=>by
        rw[if_pos h] at N;cases N
       rw[if_neg C1] at N;have g7:=x3.out;rw[qjt] at g7;have M7:∀W v,QL W v (ju S u)->q7k S al R v W n:=λW v hr=>by
        refine⟨_,hr,⟨L3,λq hq=>?_⟩,λq hq=>?_,N⟩
        ·obtain⟨p,hp,s,hs,rfl⟩:=q21 hq;have h1:=(s6.2 p hp);have h2:=D7.out p hp;have h3:=vw s 5 λy hy=>by have:=(x1 s hs).2 y hy;omega
         refine⟨λr hr=>?_,Nat.or_lt_two_pow (n:=5) h1.2.1 h3,by simp[Zd];omega⟩;rcases qkn.1 hr with h | h
         ·exact h1.1 r h
         ·rw[qkv.1 h];exact hs
        ·obtain⟨p,hp,s,hs,rfl⟩:=q21 hq;have h2:=D7.out p hp;simp[Zd];omega
       have K1:=M7 wr u11 g7.recs;obtain⟨xb,xc,hx,-⟩:=g7.recs;have U0:(ju S u).length≠0:=λh=>C1 (qjq h);generalize (ju S u).length=xl at hx U0;subst hx;have P9:=qhw K1;have hxz:((xl:Int) == 0)=false:=by rw[beq_eq_false_iff_ne];omega
       clear K1 M7 N g7 C1;go_wp2;exact⟨⟨⟨n,by omega,P9⟩,HG.t t5⟩,Nat.lt_of_le_of_lt (q4l (by omega) P9) (by rw[<- X0];omega)⟩
end
section
open Go Go.RowKit Go.Co
def yX{n:Int}(h:0<=n/\n<=30):YOk (zk n) 6:=⟨by simp[zk],λp a=>by
 simp only[zk,qjB,qk5,or_false] at a;rcases a with rfl | rfl | rfl | rfl<;>(dsimp only;omega),by omega,by omega⟩
def vK(n:Int):(zk n).length=4:=rfl
def q40(n:Int):∀(x:List Int),(∀y∈x,0<=y/\y<4)->∀a:Int,(x.map (jz (zk n))).foldl (·+·) a=a+(2*(x.count 0:Int)+2*(x.count 1:Int)+(x.count 2:Int)+(x.count 3:Int))
 | [],_,a=>by simp
 | y::t,h,a=>by
  have b:=q40 n t (λz c=>h z (by simp[c]));have d:=h y (by simp);simp only[qle,List.foldl_cons];rw[b];obtain rfl | rfl | rfl | rfl:y=0\/y=1\/y=2\/y=3:=by omega
  all_goals simp[qqd,jz,zk];try omega
def Jn{x:List Int}(h:x.Nodup)(a:Int):x.count a<=1:=by
 induction x with
 | nil=>simp
 | cons y t b=>
  rw[List.nodup_cons] at h;rw[qqd];by_cases e:y=a
  ·subst e;have:=List.count_eq_zero.2 h.1;simp[this]
  ·simp[e];exact b h.2
def K3{n:Int}(x:List Int)(a:x.Nodup)(d:∀y∈x,0<=y/\y<(zk n).length):POk (zk n) 6 x:=by
 have e:∀y∈x,0<=y/\y<4:=λy c=>by have:=d y c;rw[vK] at this;omega
 have i:=q40 n x e 0;have o:=Jn a 0;have l:=Jn a 1;have k:=Jn a 2;have j:=Jn a 3;refine⟨d,a,?_,?_⟩
 ·unfold qK;rw[i];omega
 ·have b:∀(x:List Int),(∀y∈x,0<=y/\y<4)->x.length=x.count 0+x.count 1+x.count 2+x.count 3:=by
   intro x;induction x with
   | nil=>simp
   | cons y t f=>
    intro h;have:=f (λz g=>h z (by simp[g]));have c:=h y (by simp);obtain rfl | rfl | rfl | rfl:y=0\/y=1\/y=2\/y=3:=by omega
    all_goals simp[qqd];omega
  have:=b x e;omega
def YV(n:Int):POk (zk n) 6 [0,1,2]:=K3 _ (by decide) (by simp[vK])
def qdF(n:Int):POk (zk n) 6 [2,1,0]:=K3 _ (by decide) (by simp[vK])
def qcp:yN (zk 12) [0,1,2]=[(6,9),(2,3),(0,0)]:=by kernel_rfl
def q9z:z9 (zk 8) [0,1,2]=3:=by kernel_rfl
def qco:jl (zk 8) [0,1,2]=.tuple #[.agg #[.int .i64 (-1),.int .i64 2],.int .i64 0]:=by kernel_rfl
def qej:q20 (zk 12) 6 3 10 [zW [2,1,0]] [zW [2,1,0]] 0=some (some (3,[0,1,2])):=by kernel_rfl
def qei:(yr (zk 12) 6 (yG (zX (zk 12).length) 0)).2=[0,1,2]:=by kernel_rfl
def q9B:vW (zk 8) (yG (zX (zk 8).length) 0)=[[0],[1],[2],[3],[0,1],[0,2],[0,3],[1,2],[1,3]]:=by kernel_rfl
def exS:List (List Int):=[[0],[1],[2],[3],[0,1],[0,2],[0,3],[1,2],[1,3]]
def qg6:qcg 10 (zK exS.length exS) (qW (zX (zk 8).length)) [([],0)]=some (some [[0,2],[1,3]]):=by kernel_rfl
def q9A:∀s∈zK exS.length exS,s≠[]/\∀x∈s,0<=x/\x<5:=by decide
def q04(a:List Par)(l b:List Int):Bool:=(qiz (q7f a b)).any λi=>qw a (ovr (q15 a b i) (pre Par.mn a a.length) b b.length) l && !qw a (ovr (q15 a b i) (pre Par.mx a a.length) b b.length) l
def q5h(d:List Par)(l c:List Int):q04 d l c=true↔JT d l c:=by
 unfold q04 JT;rw[List.any_eq_true];constructor
 ·rintro⟨i,b,a⟩;exact⟨i,qkg.1 b,a⟩
 ·rintro⟨i,b,a⟩;exact⟨i,qkg.2 b,a⟩
def qaC(a:List Par)(l c:List Int):kC a l c=!q04 a l c:=q43 (q5h a l c)
def qcn:jf (kC (zk 8) [0,1,2]) (yG [0,1,2] 0) []=(true,[1,2]):=by
 have e:kC (zk 8) [0,1,2]=λc=>!q04 (zk 8) [0,1,2] c:=funext λc=>qaC _ _ _;have h:jf (λc=>!q04 (zk 8) [0,1,2] c) (yG [0,1,2] 0) []=(true,[1,2]):=by kernel_rfl
 exact(congrArg (λp=>jf p (yG [0,1,2] 0) []) e).t h
end
section
open Go.RowKit
def yF(n:Int)(w:qhy):qiw Ya 80 #[.int .i64 n] w λe x=>∃v,e=.returned (.agg #[v,.int .i64 6])/\w.gb x none/\qn w.heap.size x.heap.size x v (zk n)/\∀(G:qj5) (m c:Nat),v=.slice (some G) m c->∃d e f,x.heap[G.block]?=some (.cells d e f)/\∀(i:Nat) u,d[i]?=some u->∃k m,u=.int k m:=by
 obtain⟨A,y⟩:∃A,A=w.heap.size:=⟨_,rfl⟩;obtain⟨s,l⟩:∃s,s=w.alloc (.cells #[.slice none 0 0,.int .i64 0] 24):=⟨_,rfl⟩;have M:s.heap[A]?=some (.cells #[.slice none 0 0,.int .i64 0] 24 (0,0)):=by rw[l,y];exact qhH w _
 have N:w.gb s none:=by rw[l];exact qhx _ _ none
 have⟨P,H,b,O⟩:=zI y l M N;clear y l M N;go_enter Tp.x80,Tryz.ntmps80;go_upto_region 1 with(fail);rw[<- P,<- H];have g:=qhw (qi2 s none);have R:=q8 (o:=0) b rfl;have Q:=q8 (o:=1) b rfl;have U:=qj (o:=0) b;have f1:=qj (o:=1) b;have F:=(qhB.1 b).1;go_wp2_with (go_at_call 39;refine(q6s _ _ _ _ _).mono ?_;rintro e a ⟨rfl,L⟩;replace g:=qhw (g.t L);replace R:=q8 (o:=0) (bk g b) rfl;replace Q:=q8 (o:=1) (bk g b) rfl;replace U:=qj (o:=0) (bk g b);replace f1:=qj (o:=1) (bk g b);replace F:=(qhB.1 (bk g b)).1;clear L);obtain⟨d,q⟩:∃d:Array qhC,d=#[.int .i64 8,.int .i64 10,.int .i64 n,.int .i64 2,.int .i64 4,.int .i64 6,.int .i64 6,.int .i64 2,.int .i64 2,.int .i64 3,.int .i64 3,.int .i64 1,.int .i64 5,.int .i64 5,.int .i64 0,.int .i64 1]:=⟨_,rfl⟩;obtain⟨W,p⟩:∃W,W=((a.setCell ⟨A,0,none⟩ (.slice (some ⟨a.heap.size,0,none⟩) 4 4)).setCell ⟨A,1,none⟩ (.int .i64 6)).alloc (.cells d 28):=⟨_,rfl⟩;have S:((a.setCell ⟨A,0,none⟩ (.slice (some ⟨a.heap.size,0,none⟩) 4 4)).setCell ⟨A,1,none⟩ (.int .i64 6)).heap.size=a.heap.size:=by simp[qki]
 have C:W.heap[A]?=some (.cells #[.slice (some ⟨a.heap.size,0,none⟩) 4 4,.int .i64 6] 24 (0,0)):=by rw[p];exact qp (by rw[qg (qg (bk g b))];rfl)
 have r:W.heap[a.heap.size]?=some (.cells d 28 (0,0)):=by
  have:=qhH ((a.setCell ⟨A,0,none⟩ (.slice (some ⟨a.heap.size,0,none⟩) 4 4)).setCell ⟨A,1,none⟩ (.int .i64 6)) (.cells d 28);rw[S,<- p] at this;exact this
 have y:=P.out;have D:w.gb W none:=((O.t g).andThen (row':=some A) ((qf _ _ _ _).t (qf _ _ _ _)) (by rintro j e;cases e;exact .inl (by omega))).t (by rw[p];exact qhx _ _ _);have z:=(O.t g).size;have B:a.heap.size<W.heap.size:=(qhB.1 r).1;rw[<- q,<- p];refine qjw (v:=.agg #[.slice (some ⟨a.heap.size,0,none⟩) 4 4,.int .i64 6]) (by simp[qkh,Tryz.results80,go_sem,qiA,C]) rfl ⟨_,rfl,D,⟨some ⟨a.heap.size,0,none⟩,4,rfl,by simp[zk],λ_=>⟨a.heap.size,0,d,_,rfl,z,B,r,λi T=>?_⟩⟩,λG m c e=>?_⟩;rotate_left
 ·cases e;refine⟨d,_,_,r,λi u I=>?_⟩;rw[q] at I;have hm:=qk4 I;simp only[qlh,qjB,qk5,or_false] at hm;rcases hm with h | h | h | h | h | h | h | h | h | h | h | h | h | h | h | h<;>exact⟨_,_,h⟩
 obtain rfl | rfl | rfl | rfl:i=0\/i=1\/i=2\/i=3:=by simp[zk] at T;omega
 all_goals
  rw[q];exact⟨_,rfl,rfl,rfl,rfl,rfl⟩
end
section
open Go Go.RowKit Go.Co Go.Sim Go.Conc Go.ConcN
def Ja{w:qhy}{B:Nat}{a:Array qhC}{b:Nat × Nat}(l:List Int)(h:w.heap[B]?=some (.cells a 3 b))(e:a=(l.map (qim .i64)).toArray)(c:(l.length:Int)<=1000000):qd 0 w.heap.size w (.slice (some B) l.length l.length) l :=
 ⟨_,_,rfl,c,λ_=>⟨B,0,a,b,rfl,qix _,qz h,h,λi d=>by rw[e];simp[d]⟩⟩
def jN(w:qhy){a:Array qhC}(l:List Int)(c:a=(l.map (qim .i64)).toArray)(b:(l.length:Int)<=1000000):qd 0 (w.alloc (.cells a 3)).heap.size (w.alloc (.cells a 3)) (.slice (some w.heap.size) l.length l.length) l:=Ja l (qhH w _) c b
def qd.kn{w u:qhy}{T:Nat->qk9->Nat}{v:qhC}{l:List Int}(h:qd 0 w.heap.size w v l)(a:(w.tp T).gb u none):qd 0 u.heap.size u v l:=(qd.kept (w:=w.tp T) h a (by simp)).mono (qhz _) a.size
def qG.kn{w u:qhy}{T:Nat->qk9->Nat}{v:qhC}{l:List (Int × Int)}(h:qG 0 w.heap.size w v l)(a:(w.tp T).gb u none):qG 0 u.heap.size u v l:=(qG.kept (w:=w.tp T) h a (by simp)).mono (qhz _) a.size
def RowsIn.kn{w u:qhy}{T:Nat->qk9->Nat}{v:qhC}{l:List (List Int)}(h:RowsIn 0 w.heap.size w v l)(a:(w.tp T).gb u none):RowsIn 0 u.heap.size u v l:=(RowsIn.kept (w:=w.tp T) h a (by simp)).mono (qhz _) a.size
def q8c{ps:List Par}{m:Nat}(hm:1<=m)(b:∀p∈ps,kOf p<=m):∀(a:List Int) (L:List (Nat->Int)),(a.foldl (vA ps) L).length<=L.length*m ^ a.length
 | [],L=>by simp
 | x::a,L=>by
  have c:=q8c hm b a (vA ps L x);have e:(vA ps L x).length<=L.length*m:=by
   unfold vA;split
   ·rename_i p d
    rw[vR];exact Nat.mul_le_mul_left _ (b p (qih d))
   ·exact Nat.le_mul_of_pos_right _ hm
  rw[List.foldl_cons,qi3,Nat.pow_succ];refine qi1 c (qi1 (Nat.mul_le_mul_right _ e) ?_);rw[Nat.mul_assoc,Nat.mul_comm m];exact qhz _
def qen{ps:List Par}{b:Int}(h:YOk ps b){l a:List Int}(g:∀y∈l,0<=y/\y<ps.length)(e:l.length<=1000)(c:∀y∈a,0<=y/\y<ps.length)(k:a.length<=5):qdd ps l a:=by
 refine⟨h.len,λp d=>?_,g,e,c,by omega,λj n=>?_⟩
 ·have:=h.each p d;omega
 ·have i:=q8c (ps:=ps) (m:=12) (by omega) (λp d=>by have:=h.each p d;unfold kOf;omega) (a.take j) [λ_=>0];have o:12 ^ (a.take j).length<=12 ^ 5:=Nat.pow_le_pow_right (by omega) (by rw[qkC];omega);unfold kr;simp only[qi3,qi7,qib,Nat.one_mul] at i;omega
def q9e{w:qhy}{B:Nat}{a:Array qhC}{c:Nat × Nat}(h:w.heap[B]?=some (.cells a 26 c))(d:a=#[.int .i64 6,.int .i64 9,.int .i64 2,.int .i64 3,.int .i64 0,.int .i64 0]):qG 0 w.heap.size w (.slice (some B) 3 3) [(6,9),(2,3),(0,0)]:=by
 refine⟨_,_,rfl,by decide,λ_=>⟨B,0,a,c,rfl,qix _,qz h,h,λi b=>?_⟩⟩;subst d;have b:i<3:=b;obtain rfl | rfl | rfl:i=0\/i=1\/i=2:=by omega
 all_goals exact⟨_,rfl,rfl,rfl⟩
def qbH{w:qhy}{B A1 A2:Nat}{fr:Nat × Nat}(h:w.heap[B]?=some (.cells #[.slice (some A1) 2 2,.slice (some A2) 2 2] 29 fr))(c:qd 0 w.heap.size w (.slice (some A1) 2 2) [0,2])(b:qd 0 w.heap.size w (.slice (some A2) 2 2) [1,3]):RowsIn 0 w.heap.size w (.slice (some B) 2 2) [[0,2],[1,3]]:=by
 refine⟨_,_,rfl,by decide,λ_=>⟨B,0,_,fr,rfl,qix _,qz h,h,λi a=>?_⟩⟩;have a:i<2:=a;obtain rfl | rfl:i=0\/i=1:=by omega
 ·exact⟨_,_,rfl,rfl,c⟩
 ·exact⟨_,_,rfl,rfl,b⟩
def q7i(w:qhy):RowsIn 0 (((w.alloc (.cells #[.int .i64 0,.int .i64 2] 3)).alloc (.cells #[.int .i64 1,.int .i64 3] 3)).alloc (.cells #[.slice (some w.heap.size) 2 2,.slice (some (w.heap.size+1:Nat)) 2 2] 29)).heap.size (((w.alloc (.cells #[.int .i64 0,.int .i64 2] 3)).alloc (.cells #[.int .i64 1,.int .i64 3] 3)).alloc (.cells #[.slice (some w.heap.size) 2 2,.slice (some (w.heap.size+1:Nat)) 2 2] 29)) (.slice (some (w.heap.size+2:Nat)) 2 2) [[0,2],[1,3]]:=by
 refine qbH (A1:=w.heap.size) (A2:=w.heap.size+1) (fr:=(0,0)) ?_ ?_ ?_
 ·have h:=qhH ((w.alloc (.cells #[.int .i64 0,.int .i64 2] 3)).alloc (.cells #[.int .i64 1,.int .i64 3] 3)) (.cells #[.slice (some w.heap.size) 2 2,.slice (some (w.heap.size+1:Nat)) 2 2] 29);rw[qi6,qi6] at h;exact h
 ·exact Ja [0,2] (qp (qp (qhH w _))) rfl (by decide)
 ·have h:=qhH (w.alloc (.cells #[.int .i64 0,.int .i64 2] 3)) (.cells #[.int .i64 1,.int .i64 3] 3);rw[qi6] at h;exact Ja [1,3] (qp h) rfl (by decide)
def yS[JunkSet]{f:qjf}{Post:qhC->qhy->Prop}{W:qhy}{g:qhD}{w:qhy}(F:qhy->Prop)(a:F w)(h:∀u,F u->EL Ya qi8 f Post W g u):EL Ya qi8 f Post W g w:=h w a
section
variable[J:JunkSet]{f:qjf}{Post:qhC->qhy->Prop}{W:qhy}
def qha(D:Two Ya qi8)(h8:JunkSet.okf 137)(h9:∀i,¬ JunkSet.jk i)(k0:Ya.inits.idxOf? f=none)(k6:∃g,Ya.funcs[f]?=some g/\Tryz.prog.funcs[f]?=some g){wq:qhy}(h0:qZ wq 0) :EC Ya qi8 f Post W 23 #[] wq λv u=>v=.bool true/\(wq.tp u.tape).gb u none:=by
 have z:Ya.funcs[(qir 23).fn]?=Tryz.prog.funcs[(qir 23).fn]?:=zh 23 (by decide);refine EC.of_body1 D (fn:=Tryz.f23) (c0:=Tryz.f23.body.getD .skip) (t:=0) Tp.x23 Tryz.func23 (by kernel_rfl) rfl λcs A N=>?_;have HR:=qhw N;clear N;simp only[Tryz.f23,qi0];walk_nrm;refine EL.sp D A z λT=>?_;go_wp2;refine EL.tape (wq:=wq) ?_ T;refine EL.sp D A z λT=>?_;go_wp2_with (first
  | (go_at_call 80;refine(yF 12 _).mono ?_;rintro e L ⟨V,rfl,d,a,b⟩;have r:=qhw d;have p:=qhw a;have C:=qhw b;obtain⟨I,H,rfl,-,-⟩:=a.cell;clear d a b)
  | (go_at_call 35;refine(q9d 0 _ _ _ (zk 12) 6 [0,1,2] _ ((p.kept (qhx _ _ none)).mono (qix _) (by rw[qi6];omega)) (jN _ [0,1,2] rfl (by decide)) (qhz _) (yX (by omega)) (YV 12)).mono ?_;rintro e P ⟨Q,rfl,k,U⟩;rw[qcp] at U;have x:=qhw k;have B3:=qhw U;clear k U))
 have j:=r.out.t ((qhx _ _ none).t x);refine yS (λu=>(wq.tp u.tape).gb u none/\qG 0 u.heap.size u Q [(6,9),(2,3),(0,0)]) ⟨tpg j,B3.mono (qix _) (qhz _)⟩ λu1 G=>?_;obtain⟨g1,bA⟩:=G;clear j B3 x r p C;refine EL.sp D A z λT=>?_;go_wp2_with (first
  | (go_at_call 80;refine(yF 8 _).mono ?_;rintro e L ⟨V,rfl,d,a,b⟩;have r:=qhw d;have p:=qhw a;have C:=qhw b;obtain⟨I,H,rfl,-,-⟩:=a.cell;clear d a b)
  | (go_at_call 37;refine(q1m 0 _ _ _ (zk 8) 6 [0,1,2] _ ((p.kept (qhx _ _ none)).mono (qix _) (by rw[qi6];omega)) (jN _ [0,1,2] rfl (by decide)) (qhz _) (yX (by omega)) (YV 8)).mono ?_;rintro e P ⟨rfl,k⟩;rw[q9z];have x:=qhw k;clear k))
 have j:=r.out.t ((qhx _ _ none).t x);refine yS (λu=>(wq.tp u.tape).gb u none/\qG 0 u.heap.size u Q [(6,9),(2,3),(0,0)]) ⟨gb g1 (tpg j),bA.kn j⟩ λu2 G=>?_;obtain⟨g2,d9⟩:=G;clear j x r p C g1 bA;refine EL.sp D A z λT=>?_;go_wp2_with (first
  | (go_at_call 80;refine(yF 8 _).mono ?_;rintro e L ⟨V,rfl,d,a,b⟩;have r:=qhw d;have p:=qhw a;have C:=qhw b;obtain⟨I,H,rfl,-,-⟩:=a.cell;clear d a b)
  | (go_at_call 36;refine(q1u 0 _ _ _ (zk 8) 6 [0,1,2] _ ((p.kept (qhx _ _ none)).mono (qix _) (by rw[qi6];omega)) (jN _ [0,1,2] rfl (by decide)) (qhz _) (yX (by omega)) (YV 8)).mono ?_;rintro e P ⟨rfl,k⟩;rw[qco];have x:=qhw k;clear k))
 obtain⟨X,hX⟩:∃X,X=P.heap.size:=⟨_,rfl⟩;rw[<- hX];have j:=(r.t ((qhx _ _ none).t x)).t (qhx P (.cells #[.int .i64 (-1),.int .i64 2] 26) none);refine yS (λu=>(wq.tp u.tape).gb u none/\qG 0 u.heap.size u Q [(6,9),(2,3),(0,0)]/\u.heap[X]?=some (.cells #[.int .i64 (-1),.int .i64 2] 26 (0,0))) ⟨gb g2 (tpg j),d9.kn j,by rw[hX];exact qhH _ _⟩ λu3 G=>?_;obtain⟨g3,d8,x3⟩:=G;clear j x r p C g2 d9 hX;refine EL.seq D A z ?_;refine EL.region D A z ?_;simp only[qiu,qi3,qi7,qii,qib,qiz,qj9];refine EL.list D A z [0,1] [_,_] (rest:=[2,3,4,5,6,7]) rfl λT=>?_;go_wp2_with (go_at_call 80;refine(yF 8 _).mono ?_;rintro e L ⟨V,rfl,d,a,b⟩;have r:=qhw d;have p:=qhw a;have C:=qhw b;obtain⟨I,H,rfl,-,-⟩:=a.cell;clear d a b);obtain⟨B,hB⟩:∃B,B=L.heap.size:=⟨_,rfl⟩;rw[<- hB];have j:=r.out.t (qhx L (.cells #[.int .i64 0,.int .i64 1,.int .i64 2] 3) none);have S:(L.alloc (.cells #[.int .i64 0,.int .i64 1,.int .i64 2] 3)).heap[B]?=some (.cells #[.int .i64 0,.int .i64 1,.int .i64 2] 3 (0,0)):=by rw[hB];exact qhH _ _
 refine yS (λu=>((wq.tp u.tape).gb u none/\qG 0 u.heap.size u Q [(6,9),(2,3),(0,0)]/\u.heap[X]?=some (.cells #[.int .i64 (-1),.int .i64 2] 26 (0,0)))/\qn 0 u.heap.size u (.slice I (zk 8).length H) (zk 8)/\qU u (.slice I (zk 8).length H)/\qd 0 u.heap.size u (.slice (some B) ([0,1,2]:List Int).length 3) [0,1,2]/\qU u (.slice (some B) ([0,1,2]:List Int).length 3))
  ⟨⟨gb g3 (tpg j),d8.kn j,bk j x3⟩,(p.kept (qhx _ _ none)).mono (qix _) (by rw[qi6];omega),λad n c e=>by
   have⟨cs,e1,f1,h1,h2⟩:=C.out ad n c e;exact⟨cs,e1,f1,qp h1,h2⟩,Ja [0,1,2] S rfl (by decide),λad n c e=>by
   cases e;refine⟨_,_,_,S,λi u hu=>?_⟩;have hm:=qk4 hu;simp only[qlh,qjB,qk5,or_false] at hm;rcases hm with h | h | h<;>exact⟨_,_,h⟩⟩ λu4 G=>?_
 obtain⟨⟨g4,d7,x4⟩,p4,Z,i4,a6⟩:=G;clear j S hB r p C g3 d8 x3;refine EL.enter D A z (fk:=29) (args:=#[.agg #[.slice I (zk 8).length H,.int .i64 6],.slice (some B) 3 3]) rfl rfl (λT=>by rw[qnj (f:=29) rfl Tp.x29 (by kernel_rfl) rfl];walk_nrm) (zh 29 (by decide)) ?_;refine el29 D h8 h9 k0 k6 (ws:=[0,1,2]) (l:=[0,1,2]) (by decide) (λc hc hl=>qen (yX (by omega)) (by simp[vK]) (by decide) (λy hy=>by have:=hc y hy;simp at this;rw[vK];omega) (by simp at hl;omega)) (Qp (by decide) (by decide)) (yX (by omega)) (YV 8) p4 Z i4 a6 ?_ _ cs A z λv u hR=>?_
 ·obtain⟨cs,e,g,h0,k5⟩:=h0;exact⟨cs,e,g,blk (w:=wq.tp u4.tape) g4 (by simp) h0,k5⟩
 obtain⟨o,s,rfl,⟨bo,R⟩,M,a8⟩:=hR;rw[qcn] at R;obtain⟨rfl,rfl⟩:=Prod.mk.inj R;have g5:=gb g4 M;have d6:=d7.kn M;have x5:=blk (w:=u4.tp u.tape) M (by simp) x4;clear g4 d7 x4 p4 Z i4 a6 R M;rw[qkm];walk_nrm;refine EL.list D A z [3,4,5,6,7] [_,_,_,_,_] (rest:=[]) rfl λT=>?_;go_wp2;refine EL.tape (wq:=u) ?_ T;refine EL.region_end D A z ?_;refine EL.sp D A z λT=>?_;go_wp2_with (first
  | (go_at_call 80;refine(yF 12 _).mono ?_;rintro e L ⟨V,rfl,d,a,b⟩;have r:=qhw d;have p:=qhw a;have C:=qhw b;obtain⟨I,H,rfl,-,-⟩:=a.cell;clear d a b)
  | (go_at_call 54;refine(qe3 _ _ (zk 12) 6 [2,1,0] _ ((p.kept (qhx _ _ none)).mono (qix _) (by rw[qi6];omega)) (jN _ [2,1,0] rfl (by decide)) (yX (by omega)) (qdF 12) 10 (by decide) (some (3,[0,1,2])) qej).mono ?_;rintro e P ⟨k,v7,rfl,a7⟩;have x:=qhw k;have I7:=qhw a7;clear k a7))
 have j:=r.out.t ((qhx _ _ none).t x);refine yS (λq=>(wq.tp q.tape).gb q none/\qG 0 q.heap.size q Q [(6,9),(2,3),(0,0)]/\q.heap[X]?=some (.cells #[.int .i64 (-1),.int .i64 2] 26 (0,0))/\qd 0 q.heap.size q s [1,2]/\qd 0 q.heap.size q v7 [0,1,2]) ⟨gb g5 (tpg j),d6.kn j,bk j x5,a8.kn j,I7⟩ λu6 G=>?_;obtain⟨g6,d5,x6,s6,m6⟩:=G;clear j x r p C I7 g5 d6 x5 a8;refine EL.sp D A z λT=>?_;go_wp2_with (first
  | (go_at_call 80;refine(yF 8 _).mono ?_;rintro e L ⟨V,rfl,d,a,b⟩;have r:=qhw d;have p:=qhw a;have C:=qhw b;obtain⟨I,H,rfl,-,-⟩:=a.cell;clear d a b)
  | (go_at_call 63;refine(q9w _ (zk 8) 6 _ (p.mono (qix _) (qhz _)) (yX (by omega)) K3 (by decide) (by decide) exS q9B.symm (by decide) (by decide) q9A 10 (by decide) [[0,2],[1,3]] qg6).mono ?_;rintro e P ⟨v9,rfl,k,F⟩;have x:=qhw k;have O:=qhw F;clear k F))
 have j:=r.out.t x;refine yS (λq=>(wq.tp q.tape).gb q none/\qG 0 q.heap.size q Q [(6,9),(2,3),(0,0)]/\q.heap[X]?=some (.cells #[.int .i64 (-1),.int .i64 2] 26 (0,0))/\qd 0 q.heap.size q s [1,2]/\qd 0 q.heap.size q v7 [0,1,2]/\RowsIn 0 q.heap.size q v9 [[0,2],[1,3]]) ⟨gb g6 (tpg j),d5.kn j,bk j x6,s6.kn j,m6.kn j,O⟩ λu7 G=>?_;obtain⟨g7,c9,x7,s7,m7,r7⟩:=G;clear j x r p C O g6 d5 x6 s6 m6;refine EL.sp D A z λT=>?_;go_wp2_with (first
  | (go_at_call 80;refine(yF 12 _).mono ?_;rintro e L ⟨V,rfl,d,a,b⟩;have r:=qhw d;have p:=qhw a;have C:=qhw b;obtain⟨I,H,rfl,-,-⟩:=a.cell;clear d a b)
  | (go_at_call 44;refine(qbD _ (zk 12) 6 _ (p.mono (qix _) (qhz _)) (yX (by omega))).mono ?_;rintro e P ⟨e9,rfl,k,F⟩;rw[qei] at F;have x:=qhw k;have O:=qhw F;clear k F))
 have j:=r.out.t x;refine yS (λq=>(wq.tp q.tape).gb q none/\qG 0 q.heap.size q Q [(6,9),(2,3),(0,0)]/\q.heap[X]?=some (.cells #[.int .i64 (-1),.int .i64 2] 26 (0,0))/\qd 0 q.heap.size q s [1,2]/\qd 0 q.heap.size q v7 [0,1,2]/\RowsIn 0 q.heap.size q v9 [[0,2],[1,3]]/\qd 0 q.heap.size q e9 [0,1,2]) ⟨gb g7 (tpg j),c9.kn j,bk j x7,s7.kn j,m7.kn j,r7.kn j,O⟩ λu8 G=>?_;obtain⟨g8,c8,x8,s8,m8,r8,o8⟩:=G;clear j x r p C O g7 c9 x7 s7 m7 r7;refine EL.sp D A z λT=>?_;have GA:=qhw (qi2 (u8.tp T) none);have c0:=q8 (w:=u8.tp T) x8 (o:=0) rfl;have c1:=q8 (w:=u8.tp T) x8 (o:=1) rfl;have v5:=λ(w:qhy)=>qd1 (-1) 2 (-1) 2 w;have v4:=ZN;go_wp2_with (fail);refine(q0A 0 _ 0 _ _ _ [(6,9),(2,3),(0,0)] [(6,9),(2,3),(0,0)] _ (qG.kept (w:=u8.tp T) c8 (qhx (u8.tp T) _ none) (by simp)) (q9e (qhH _ _) rfl)).mono ?_;rintro e wA ⟨rfl,b8⟩;have Y:=(qhx (u8.tp T) _ none).t b8;have GA:=qhw Y;have S8:=qhw (s8.kn Y);have M8:=qhw (m8.kn Y);have R8:=qhw (r8.kn Y);have O8:=qhw (o8.kn Y);clear Y b8 c0 c1 s8 m8 r8 o8 c8;rw[decide_eq_true (show([(6,9),(2,3),(0,0)]:List (Int × Int))=[(6,9),(2,3),(0,0)] from rfl)];go_wp2_with (fail);refine(jt 0 _ 0 _ _ _ [1,2] [1,2] _ (S8.alloc _) (jN _ [1,2] rfl (by decide))).mono ?_;rintro e wB ⟨rfl,b7⟩;have gB:=(qhx wA _ none).t b7;have GB:=qhw (GA.t gB);have M9:=qhw (M8.kn (T:=wA.tape) gB);have O:=qhw (R8.kn (T:=wA.tape) gB);have O9:=qhw (O8.kn (T:=wA.tape) gB);clear gB b7 GA S8 M8 R8 O8;rw[decide_eq_true (show([1,2]:List Int)=[1,2] from rfl)];go_wp2_with (fail);refine(jt 0 _ 0 _ _ _ [0,1,2] [0,1,2] _ (M9.alloc _) (jN _ [0,1,2] rfl (by decide))).mono ?_;rintro e wC ⟨rfl,b6⟩;have gC:=(qhx wB _ none).t b6;have GC:=qhw (GB.t gC);have RC:=qhw (O.kn (T:=wB.tape) gC);have OC:=qhw (O9.kn (T:=wB.tape) gC);clear gC b6 GB M9 O O9;rw[decide_eq_true (show([0,1,2]:List Int)=[0,1,2] from rfl)];go_wp2_with (fail);refine(q35 0 _ 0 _ _ _ [[0,2],[1,3]] [[0,2],[1,3]] _ (RC.kept ((qhx _ _ none).t ((qhx _ _ none).t (qhx _ _ none)))) (q7i wC)).mono ?_;rintro e wD ⟨rfl,b0⟩;have gD:=((qhx wC _ none).t ((qhx _ _ none).t (qhx _ _ none))).t b0;have GD:=qhw (GC.t gD);have OD:=qhw (OC.kn (T:=wC.tape) gD);clear gD b0 GC RC OC;rw[decide_eq_true (show([[0,2],[1,3]]:List (List Int))=[[0,2],[1,3]] from rfl)];go_wp2_with (fail);refine(jt 0 _ 0 _ _ _ [0,1,2] [0,1,2] _ (OD.alloc _) (jN _ [0,1,2] rfl (by decide))).mono ?_;rintro e wE ⟨rfl,a9⟩;have gE:=GD.out.t ((qhx wD _ none).t a9);have GE:=qhw gE;clear gE a9 GD OD;rw[decide_eq_true (show([0,1,2]:List Int)=[0,1,2] from rfl)];go_wp2;refine yS (λq=>(wq.tp q.tape).gb q none) (gb g8 (tpg GE)) λu9 g9=>?_;refine EL.retS D A z ?_;exact HR _ _ u9 ⟨rfl,g9⟩
end
end
section
open Go Go.RowKit Go.Co Go.Sim Go.Conc Go.ConcN
def qd8.yok{n:Nat}{j:List Par}{i:Int}(h:qd8 n j i)(l:n<=5):YOk j i:=⟨by have:=h.len;omega,λp k=>by
 have:=h.each p k;have w:=this.a;have v:=this.b;have u:=this.c;have t:=this.d;have s:=this.e;have r:=this.f;have q:=this.g;have o:=this.h;omega,by have:=h.l1;omega,by have:=h.l2;omega⟩
def q9i{f:qjf}{fn:Func}{c0:qkk}{a:Array qhC}(c:Ya.funcs[f]?=some fn)(b:fn.body=some c0) :qj1 Ya f a .normal=(qir f).at ⟨a++qj4 (fn.ntmps - a.size) qhE,[]⟩ [.code c0]:=by
 simp[qj1,c,b,Frame.at,qir]
section
variable[J:JunkSet]{Post:qhC->qhy->Prop}{W:qhy}
end
end
section
open Go Go.RowKit
def qc4(z t:Nat)(v:qhC)(l:List Int)(w:qhy)(F:qd z t w v l)(D:t<=w.heap.size)(O:l.length<=1000) :qiw Ya 28 #[v] w λe r=>∃g,e=.returned g/\w.gb r none/\r.ownsRow w.heap.size 3 1 g l.length (l.map (qim .i64)):=by
 have⟨A,p,n,k,i⟩:=qk1 Tp.info3p;obtain⟨base,q,rfl,C,f⟩:=F;rcases base with _ | y
 ·obtain rfl:l=[]:=qiG λh=>by have⟨_,_,_,_,e,_⟩:=f h;cases e
  clear f;go_enter Tp.x28,qq9;go_wp2;go_ret;exact⟨_,rfl,qhx _ _ none,rfl,.inr ⟨_,0,#[],rfl,qhz _,qhH _ _,qhz _,by decide,rfl,rfl⟩⟩
 ·have s:∀j u,(l.map (qim .i64))[j]?=some u->(w.alloc (.cells #[] 3)).cell? (y.add j)=some u:=λj u c=>by
   rw[qjA] at c;cases hj:l[j]? with
   | none=>rw[hj] at c;cases c
   | some x=>
    rw[hj] at c;cases c;have d:=(qic.1 hj).1;have⟨B,o,S,R,e,Q,P,H,G⟩:=f (by rintro rfl;simp at d);cases e;have:=G j d;rw[hj] at this;exact jI (q8 (qp H) this)
  have L:=qhw s;clear f s;go_enter Tp.x28,qq9;go_wp2_with (at_builtin;(refine ql8 _ rfl _ _ 29 rfl w.heap.size 3 A _ 1 8 Tp.und29' p n k i rfl (by decide) (.slice (some w.heap.size) 0 0) 0 [] rfl ⟨rfl,.inr ⟨_,0,#[],rfl,qhz _,qhH _ _,qhz _,by decide,rfl,rfl⟩⟩ y l.length q (l.map (qim .i64)) rfl (by simp) L (by intro u c;simp at c;obtain⟨x,_,rfl⟩:=c;rfl) (by unfold qlc;omega) (by omega) (by simp) ?_);intro g N a b _;have I:=qhw a;have M:=qhw b;clear a b);go_ret;refine⟨_,rfl,(qhx _ _ none).andThen M (λj e=>.inl ?_),by simpa using I.out⟩;simp[qiF] at e;omega
end
section
open Go.RowKit
def qR(b c:Nat)(w:qhy)(v:qhC)(l:List Int):Prop :=
 ∃base a,v=.slice base l.length a/\(l.length:Int)<=1000000 /\
  (l≠[]->∃B o,base=some ⟨B,o,none⟩/\b<=B/\B<c/\B<w.heap.size/\∀i,i<l.length->w.cell? ⟨B,o+i,none⟩=some (.int .i64 (l[i]?.getD 0)))
def qd.g{a b:Nat}{w:qhy}{v:qhC}{l:List Int}(h:qd a b w v l):qR a b w v l:=h.cell
def qR.cell{b c:Nat}{w:qhy}{v:qhC}{l:List Int}(h:qR b c w v l):∃base a,v=.slice base l.length a/\(l.length:Int)<=1000000 /\(l≠[]->∃B o,base=some ⟨B,o,none⟩/\b<=B/\B<c/\B<w.heap.size/\∀i,i<l.length->w.cell? ⟨B,o+i,none⟩=some (.int .i64 (l[i]?.getD 0))):=h
def qR.kept{d a:Nat}{w w':qhy}{v:qhC}{l:List Int}{row:Option Nat}(h:qR d a w v l)(g:w.gb w' row)(j:∀R,row=some R->R<d\/a<=R:=by simp):qR d a w' v l:=by
 obtain⟨b,c,rfl,k,t⟩:=h;refine⟨b,c,rfl,k,λf=>?_⟩;obtain⟨B,o,rfl,s,r,q,p⟩:=t f;refine⟨B,o,rfl,s,r,qia q g.size,λi a=>g.cell (p i a) (λe=>?_)⟩;have:=j B e.symm;omega
def qR.mono{g i a d:Nat}{w:qhy}{v:qhC}{l:List Int}(h:qR g i w v l)(t:a<=g)(s:i<=d):qR a d w v l:=by
 obtain⟨b,c,rfl,j,p⟩:=h;refine⟨b,c,rfl,j,λf=>?_⟩;have⟨B,o,e,r,q,n,k⟩:=p f;exact⟨B,o,e,by omega,by omega,n,k⟩
def qR.take{j d:Nat}{w:qhy}{b:Option qj5}{c:Nat}{l:List Int}(h:qR j d w (.slice b l.length c) l)(k:Nat)(n:k<=l.length)(p:Nat):qR j d w (.slice b k p) (l.take k):=by
 obtain⟨base,x,e,y,q⟩:=h;injection e with g _ _;subst g;have a:(l.take k).length=k:=by simp;omega
 refine⟨b,p,by rw[a],by rw[a];omega,λf=>?_⟩;have r:0<k:=Nat.pos_of_ne_zero λe=>f (by rw[e];rfl);have⟨B,o,g,v,u,t,s⟩:=q (by intro e;rw[e] at n;simp at n;omega);refine⟨B,o,g,v,u,t,λi d=>?_⟩;rw[a] at d;rw[s i (by omega),qjC d]
def ze(c d:Nat)(w:qhy)(v:qhC)(a:List Par):Prop :=
 ∃base b,v=.slice base a.length b/\(a.length:Int)<=1000000 /\
  (a≠[]->∃B o,base=some ⟨B,o,none⟩/\c<=B/\B<d/\B<w.heap.size/\∀i,i<a.length->∃p,a[i]?=some p/\w.cell? ⟨B,o+i*4,none⟩=some (.int .i64 p.mn)/\w.cell? ⟨B,o+i*4+1,none⟩=some (.int .i64 p.mx)/\w.cell? ⟨B,o+i*4+2,none⟩=some (.int .i64 p.bears)/\w.cell? ⟨B,o+i*4+3,none⟩=some (.int .i64 p.tall))
def qn.g{b c:Nat}{w:qhy}{v:qhC}{a:List Par}(h:qn b c w v a):ze b c w v a:=h.cell
def ze.cell{c d:Nat}{w:qhy}{v:qhC}{a:List Par}(h:ze c d w v a):∃base b,v=.slice base a.length b/\(a.length:Int)<=1000000 /\(a≠[]->∃B o,base=some ⟨B,o,none⟩/\c<=B/\B<d/\B<w.heap.size/\∀i,i<a.length->∃p,a[i]?=some p/\w.cell? ⟨B,o+i*4,none⟩=some (.int .i64 p.mn)/\w.cell? ⟨B,o+i*4+1,none⟩=some (.int .i64 p.mx)/\w.cell? ⟨B,o+i*4+2,none⟩=some (.int .i64 p.bears)/\w.cell? ⟨B,o+i*4+3,none⟩=some (.int .i64 p.tall)):=h
def ze.kept{g a:Nat}{w w':qhy}{v:qhC}{k:List Par}{row:Option Nat}(h:ze g a w v k)(d:w.gb w' row)(l:∀R,row=some R->R<g\/a<=R:=by simp):ze g a w' v k:=by
 obtain⟨b,c,rfl,q,x⟩:=h;refine⟨b,c,rfl,q,λj=>?_⟩;obtain⟨B,o,rfl,u,t,s,r⟩:=x j;have f:some B≠row:=λe=>by have:=l B e.symm;omega
 refine⟨B,o,rfl,u,t,qia s d.size,λi a=>?_⟩;have⟨p,D,C,A,z,y⟩:=r i a;exact⟨p,D,d.cell C f,d.cell A f,d.cell z f,d.cell y f⟩
def ze.mono{i j a d:Nat}{w:qhy}{v:qhC}{g:List Par}(h:ze i j w v g)(t:a<=i)(s:j<=d):ze a d w v g:=by
 obtain⟨b,c,rfl,k,p⟩:=h;refine⟨b,c,rfl,k,λf=>?_⟩;have⟨B,o,e,r,q,n,l⟩:=p f;exact⟨B,o,e,by omega,by omega,n,l⟩
def q5v(d e:Nat)(w:qhy)(v:qhC)(c:List Par)(a:Int):Prop:=∃b,v=.agg #[b,a]/\ze d e w b c
def q9g(Q X P W:Nat)(C B:qhC)(a b:List Int)(w:qhy)(F:qR Q X w C a)(D:qR P W w B b) :qiw Ya 31 #[C,B] w λe O=>e=.returned (.bool (decide (a=b)))/\w.gb O none:=by
 obtain⟨ba,ca,rfl,T,p⟩:=F.cell;obtain⟨bb,cb,rfl,S,G⟩:=D.cell;have⟨H1,H2⟩:=qF p G;clear p G F D;by_cases c:a.length=b.length
 ·have H:=qhw c;have h:((a.length:Int) != (b.length:Int))=false:=by rw[c];simp
  clear c;go_enter Tp.x31,qq5;go_wp2;go_loopw [5] (λu wr=>∃k:Nat,u=.int .i64 k/\k<=a.length/\(∀i,i<k->a[i]?=b[i]?)/\w.gb wr none) (λu _=>(a.length - qj7 u).toNat)
  case atStart=>exact⟨0,rfl,by omega,λi s=>absurd s (by omega),qi2 _ _⟩
  case round=>
   obtain⟨k,rfl,hk,j,l⟩:=hrel;have⟨r,A⟩:=qF j l;clear j;by_cases f:k<a.length
   ·have d:k<b.length:=by have:=H.out;omega
    obtain⟨A1,o1,rfl,a9,a8,a7,o⟩:=H1.out (by intro e;rw[e] at f;simp at f);obtain⟨B1,o2,rfl,a6,Z,Y,n⟩:=H2.out (by intro e;rw[e] at d;simp at d);have N:=l.cl (o k f);have M:=l.cl (n k d);have z:a[k]?=some (a[k]?.getD 0):=by simp[qhG f]
    have v:b[k]?=some (b[k]?.getD 0):=by simp[qhG d]
    generalize a[k]?.getD 0=x at N z;generalize b[k]?.getD 0=y at M v;have U:(k:Int)<(b.length:Int):=by omega
    have V:(k:Int)<(a.length:Int):=by omega
    have⟨L,I⟩:=qF z v;clear o n l z v;by_cases g:x=y
    ·subst g;go_upto_region 6 with(fail);go_quiet (fail);go_wp2;go_roundw
     case rel=>
      refine⟨k+1,by simp,by omega,λi s=>?_,A.t (qi _ _ _)⟩;by_cases e:i=k
      ·rw[e,L,I]
      ·exact r i (by omega)
     case measure=>simp[qj7];omega
    ·have q:=qhw (show decide (a=b)=false by
      rw[decide_eq_false_iff_not];intro e;have p:=L.out;rw[e,I] at p;exact g (by cases p;rfl))
     have R:(x != y)=true:=by simp[g]
     go_upto_region 6 with(fail);go_quiet (fail);go_wp2;go_ret;exact⟨by rw[q];rfl,A.t (qi _ _ _)⟩
   ·obtain rfl:k=a.length:=by omega
    have q:=qhw (show decide (a=b)=true by
     rw[decide_eq_true_eq];refine qmx λi=>?_;by_cases s:i<a.length
     ·exact r i s
     ·rw[qjd (by omega),qjd (by have:=H.out;omega)])
    clear l;go_wp2;go_ret;exact⟨by rw[q];rfl,A⟩
 ·have q:=qhw (show decide (a=b)=false by
   rw[decide_eq_false_iff_not];intro e;exact c (by rw[e]))
  have h:((a.length:Int) != (b.length:Int))=true:=by simp;omega
  clear c;go_enter Tp.x31,qq5;go_wp2;go_ret;exact⟨by rw[q];rfl,qi2 _ _⟩
def q9l(z t:Nat)(v:qhC)(l:List Int)(w:qhy)(F:qR z t w v l)(D:t<=w.heap.size)(N:l.length<=1000) :qiw Ya 28 #[v] w λe r=>∃g,e=.returned g/\w.gb r none/\r.ownsRow w.heap.size 3 1 g l.length (l.map (qim .i64)):=by
 have⟨A,p,n,k,i⟩:=qk1 Tp.info3p;obtain⟨base,q,rfl,C,f⟩:=F;rcases base with _ | y
 ·obtain rfl:l=[]:=qiG λh=>by have⟨_,_,e,_⟩:=f h;cases e
  clear f;go_enter Tp.x28,qq9;go_wp2;go_ret;exact⟨_,rfl,qhx _ _ none,rfl,.inr ⟨_,0,#[],rfl,qhz _,qhH _ _,qhz _,by decide,rfl,rfl⟩⟩
 ·have s:∀j u,(l.map (qim .i64))[j]?=some u->(w.alloc (.cells #[] 3)).cell? (y.add j)=some u:=λj u c=>by
   rw[qjA] at c;cases hj:l[j]? with
   | none=>rw[hj] at c;cases c
   | some x=>
    rw[hj] at c;cases c;have d:=(qic.1 hj).1;have⟨B,o,e,Q,P,O,G⟩:=f (by rintro rfl;simp at d);cases e;have:=G j d;rw[hj] at this;exact jI ((qhx w _ none).cl this)
  have I:=qhw s;clear f s;go_enter Tp.x28,qq9;go_wp2_with (at_builtin;(refine ql8 _ rfl _ _ 29 rfl w.heap.size 3 A _ 1 8 Tp.und29' p n k i rfl (by decide) (.slice (some w.heap.size) 0 0) 0 [] rfl ⟨rfl,.inr ⟨_,0,#[],rfl,qhz _,qhH _ _,qhz _,by decide,rfl,rfl⟩⟩ y l.length q (l.map (qim .i64)) rfl (by simp) I (by intro u c;simp at c;obtain⟨x,_,rfl⟩:=c;rfl) (by unfold qlc;omega) (by omega) (by simp) ?_);intro g M a b _;have H:=qhw a;have L:=qhw b;clear a b);go_ret;refine⟨_,rfl,(qhx _ _ none).andThen L (λj e=>.inl ?_),by simpa using H.out⟩;simp[qiF] at e;omega
end
section
open Go.RowKit
section
variable{P:qi4}
def QM{d:Array qjx}{o:qjx}{a:Act}{w:qhy}{K:Act->qhy->Prop}{Q:Exit->Act->qhy->Prop}{E:Prop}(g:qiy o (qjG d a.tmps)=true)(s x:qj0)(t:qid)(k:o.op=.call { callee:=.builtin .append,args:=#[s,x],argTypes:=#[t,t] })(base:Nat)(e:qid)(i:qm8)(z:qhC)(size qoo:Nat)(ht:P.underlying t=some (.slice e))(hi:P.info? e=some i)(hz:i.zero=some z)(hsize:i.size=size)(hby:i.bytes=qoo)(hzs:z.cells.size=size)(hsz:0<size)(v:qhC)(n:Nat)(xs:List qhC)(hs:a.eval s=v)(hown:w.ownsRow base e size v n xs)(ad:qj5)(m c:Nat)(news:List qhC)(hx:a.eval x=.slice (some ad) m c)(hl:news.length=m*size)(hnews:∀j u,news[j]?=some u->w.cell? (ad.add j)=some u)(h1:∀u∈news,u.oneCell'=true)(h63:n+m<=qlc)(hbytes:(n+m)*qoo<=140737488355328)(hbase:base<=w.heap.size)(h:∀f b,b.ownsRow base e size f (n+m) (xs++news)->w.gb b v.ownBlock->K (a.put o.dst f) b) :if qiy o (qjG d a.tmps)=true then Oper.wp P o a w K Q else E:=by
 rw[if_pos g];exact wp_append_own w s x t k base e i z size qoo ht hi hz hsize hby hzs hsz v n xs hs hown ad m c news hx hl hnews h1 h63 hbytes hbase λf b p l _=>h f b p l
end
def q1y(a:List Par):(kf a).length=a.length*4:=by
 induction a with
 | nil=>rfl
 | cons p t b=>unfold kf at b ⊢;rw[qku,qjm,b];simp[vD];omega
def q93(c:List Par):∀u∈kf c,u.oneCell'=true:=by
 intro u a;unfold kf at a;obtain⟨p,-,b⟩:=List.mem_flatMap.1 a;simp[vD] at b;rcases b with rfl | rfl | rfl | rfl<;>rfl
def run_append_nil{P:qi4}{t a e:qid}{i:qm8}{g c:Nat}{w:qhy}(b:P.underlying t=some (.slice e))(d:P.info? e=some i):(qlz #[t,t] a #[.slice (some g) 0 0,.slice none 0 c]).run P w=.ok (.slice (some g) 0 0) w:=by
 simp[qlz,qoq b,sizeOf,qlG,d,qqE,qpj,qow]
def qgz{q t:Nat}{w:qhy}{f:qj5}{g:Nat}{c:List Par}(h:ze q t w (.slice (some f) c.length g) c):∀j u,(kf c)[j]?=some u->w.cell? (f.add j)=some u:=λj u d=>by
 have s:j<c.length*4:=by have:=(qic.1 d).1;rwa [q1y] at this
 obtain⟨_,_,e,-,h⟩:=h;cases e;obtain⟨B,o,e,-,-,-,v⟩:=h (by rintro rfl;simp at s);cases e;have⟨p,r,n,l,k,i⟩:=v (j / 4) (by omega);have a:=q1z c (j / 4) p r (j % 4) (Nat.mod_lt _ (by omega));rw[show j / 4*4+j % 4=j by omega,d] at a;have b:j % 4=0\/j % 4=1\/j % 4=2\/j % 4=3:=by omega
 rcases b with b | b | b | b;all_goals
  rw[b] at a;simp[vD] at a;subst a;refine jI ?_
 ·rw[show o+j=o+j / 4*4 by omega];exact n
 ·rw[show o+j=o+j / 4*4+1 by omega];exact l
 ·rw[show o+j=o+j / 4*4+2 by omega];exact k
 ·rw[show o+j=o+j / 4*4+3 by omega];exact i
def xA{f:Array qjx}{o:qjx}{a:Act}{w:qhy}{K:Act->qhy->Prop}{Q:Exit->Act->qhy->Prop}{E:Prop}(s x:qj0){C G L g n:Nat}{p:Option qj5}{b:List Par}(A:ze C G w (.slice p b.length n) b)(z:w.heap[g]?=some (.cells #[] 28 (0,0)))(I:L<=g)(R:b.length<=1000)(h:∀r q l,l.ownsRow L 28 4 (.slice r b.length q) b.length (kf b)->w.gb l (some g)->K (a.put o.dst (.slice r b.length q)) l)(j:qiy o (qjG f a.tmps)=true:=by kernel_rfl)(ho:o.op=.call { callee:=.builtin .append,args:=#[s,x],argTypes:=#[22,22] }:=by rfl)(hs:a.eval s=.slice (some g) 0 0:=by rfl)(hx:a.eval x=.slice p b.length n:=by rfl) :if qiy o (qjG f a.tmps)=true then Oper.wp Ya o a w K Q else E:=by
 have⟨D,i,v,u,t⟩:=qk1 Tp.info28p;have d:w.ownsRow L 28 4 (.slice (some g) 0 0) 0 []:=⟨rfl,.inr ⟨g,0,#[],rfl,I,z,qhz _,by decide,rfl,rfl⟩⟩;have H:=(qhB.1 z).1;rcases p with _ | O
 ·obtain rfl:b=[]:=qiG λF=>by obtain⟨_,_,e,-,k⟩:=A;cases e;have⟨_,_,e,_⟩:=k F;cases e
  rw[if_pos j];unfold Oper.wp ql0;simp only[ho,resolve,invoke,builtin,qjz,qn8,qjv,qn1,qle,qna,hs,hx,qi7,run_append_nil Tp.und22 i];exact h _ _ _ d (qi2 _ _)
 ·refine QM j s x 22 ho L 28 D _ 4 32 Tp.und22 i v u t rfl (by decide) _ 0 [] hs d O b.length n (kf b) hx (q1y b) (qgz A) (q93 b) (by unfold qlc;omega) (by omega) (by omega) λB l k M=>?_;obtain⟨r,q,rfl⟩:∃a c,B=.slice a b.length c:=by
   rcases k.2 with⟨rfl,S⟩ | ⟨g,y,N,rfl,_⟩
   ·exact⟨none,0,by rw[show b.length=0 by omega]⟩
   ·exact⟨_,y,by rw[qib]⟩
  rw[qib,qin] at k;exact h _ _ _ k M
def Kg{b:Array qjx}{o:qjx}{a:Act}{w:qhy}{K:Act->qhy->Prop}{Q:Exit->Act->qhy->Prop}{E:Prop}(s x:qj0){L G n i:Nat}{j:Option qj5}{f:List qhC}{p:Par}(d:w.ownsRow L 28 4 (.slice j n i) n f)(z:w.heap[G]?=some (.cells #[p.mn,p.mx,p.bears,p.tall] 28 (0,0)))(C:n<=1000)(y:L<=w.heap.size)(h:∀g c e,e.ownsRow L 28 4 (.slice (some ⟨g,0,none⟩) (n+1) c) (n+1) (f++vD p)->w.gb e (qiH j n i).ownBlock->K (a.put o.dst (.slice (some ⟨g,0,none⟩) (n+1) c)) e)(t:qiy o (qjG b a.tmps)=true:=by kernel_rfl)(ho:o.op=.call { callee:=.builtin .append,args:=#[s,x],argTypes:=#[22,22] }:=by rfl)(hs:a.eval s=.slice j n i:=by rfl)(hx:a.eval x=.slice (some G) 1 1:=by rfl) :if qiy o (qjG b a.tmps)=true then Oper.wp Ya o a w K Q else E:=by
 have⟨v,r,q,l,k⟩:=qk1 Tp.info28p;refine QM t s x 22 ho L 28 v _ 4 32 Tp.und22 r q l k rfl (by decide) _ n f hs d ⟨G,0,none⟩ 1 1 (vD p) hx rfl (qjh z) (by simp[vD,qjF]) (by unfold qlc;omega) (by omega) y λB e u A=>?_;obtain⟨g,c,rfl⟩:=qme u;exact h _ _ _ u A
def q36(U O:Nat)(M:qhC)(c:List Par)(a:Int)(w:qhy)(Z:q5v U O w M c a)(Y:O<=w.heap.size)(X:c.length<=1000) :qiw Ya 27 #[M] w λe D=>∃N,e=.returned (.agg #[N,a])/\w.gb D none/\qn w.heap.size D.heap.size D N c:=by
 obtain⟨pv,rfl,H⟩:=Z;obtain⟨C,B,rfl,G,-⟩:=H.cell;have⟨A,n,Q,p,s,k,u,q⟩:=zj w (.cells #[.slice C c.length B,a] 24) (.cells #[.slice none 0 0,.int .i64 0] 24);have⟨f,HW,L,T,S,HP⟩:=KX u p Q s q H;have l:=qhw (show ∀W,n.gb W none->W.cell? A=some (.slice C c.length B)/\W.cell? ⟨A,1,none⟩=some (.int .i64 a) from λW h=>⟨q8 (bk h k) rfl,q8 (bk h k) rfl⟩);clear H p Q s k u q;go_enter Tp.x27,Tryz.ntmps27;go_upto_region 1 with(fail);rw[<- L,<- HW];refine qr 7 (λW=>W.cell? A=some (.slice C c.length B)/\W.cell? ⟨A,1,none⟩=some (.int .i64 a)) (by kernel_rfl) (by kernel_rfl) (l _ (q9 n none)) (λhHeld=>?_);simp only[qi3,qi7,qii,qiB,qib,qij,qik,qiq,qin,qi9];refine tk 1 (h:=tk 2 (h:=tk 4 (h:=tk 5 (h:=?_))));try go_frame
 refine rdc 0 λK r=>?_;go_simp;have I:=qhw ((q9 n none).t (qhx n.drew (.cells #[] 28) none));refine r.out _ _ (l _ I) (λhHeld=>?_);clear r K;try go_frame
 refine rdc 3 λK r=>?_;refine xA (.tmp 3) (.tmp 5) (HP.kept (T.t I)) (qhH n.drew _) (show A+2<=n.heap.size by have:=S.out;omega) X λz y x g d=>?_;have HO:=qhw g;have b:=qhw (ql7 (row:=none) I d (λj e=>.inl (by cases e;exact qhz _)));clear g d;refine r.out _ _ (l _ b) (λhHeld=>?_);clear r K;try go_frame
 refine tk 6 (h:=?_);try go_frame
 refine⟨by kernel_rfl,?_⟩;simp only[qig,qit];have z0:=q8 (bk b f) (o:=0) rfl;have z1:=q8 (bk b f) (o:=1) rfl;have z2:=qj (o:=0) (bk b f);have z3:=qj (o:=1) (bk b f);clear hHeld;go_wp2;have V:=qg (o:=1) (v:=.int .i64 a) (qg (o:=0) (v:=.slice z c.length y) (bk b f));have i:=(qf x (A+1) 0 (.slice z c.length y)).t (qf _ (A+1) 1 (.int .i64 a));have a6:A+1<x.heap.size:=by have:=b.out.size;have:=S.out;omega
 have F:qn (A+2) x.heap.size x (.slice z c.length y) c:=qn.own HO rfl G;exact qjw (v:=.agg #[.slice z c.length y,a]) (by simp[qkh,Tryz.results27,go_sem,qiA,V]) rfl ⟨_,rfl,(T.t b).andThen (row':=some (A+1)) i (by rintro j e;cases e;exact .inl (by have:=L.out;omega)),(F.kept i (by rintro R e;cases e;exact .inl (by omega))).mono (by have:=L.out;omega) i.size⟩
def qfa(f:qhy)(A:Nat)(c:Int)(b:List Par)(p:Par)(a:qhy):Prop :=
 ∃e d,a.heap[A]?=some (.cells #[.slice e (b.length+1) d,c] 24 (0,0))/\f.gb a (some A)/\qn (A+3) a.heap.size a (.slice e (b.length+1) d) (b++[p])
def qaf{h d:qhy}{A g c:Nat}{f:Int}{a:List Par}{p:Par}{v:qhC}(k:d.heap[A]?=some (.cells #[v,f] 24 (0,0)))(j:h.gb d none)(i:d.ownsRow (A+3) 28 4 (.slice (some g) (a.length+1) c) (a.length+1) (kf a++vD p))(l:a.length<=1000) :qfa h A f a p (d.setCell A (.slice (some g) (a.length+1) c)):=by
 rw[<- Kx] at i;have b:=qf d A 0 (.slice (some g) (a.length+1) c);exact⟨_,_,qg (o:=0) k,(j.but _).t b,((qn.own i (by simp) (by simp;omega)).kept b (by rintro R e;cases e;exact .inl (by omega))).mono (qhz _) b.size⟩
def q8l(lo hi:Nat)(pv:qhC)(u:List Par)(l:Int)(p:Par)(w:qhy)(hP:ze lo hi w pv u)(F:u.length<=1000) :qiw Ya 38 #[.agg #[pv,l],.agg #[p.mn,p.mx,p.bears,p.tall]] w λe w'=>∃v',e=.returned (.agg #[v',l])/\w.gb w' none/\qn w.heap.size w'.heap.size w' v' (u++[p]):=by
 obtain⟨L,I,rfl,e4,-⟩:=hP.cell;obtain⟨A,Q⟩:∃A,A=w.heap.size:=⟨_,rfl⟩;obtain⟨k,r⟩:∃k,k=((w.alloc (.cells #[.slice L u.length I,l] 24)).alloc (.cells #[p.mn,p.mx,p.bears,p.tall] 28)).alloc (.cells #[.slice none 0 0,.int .i64 0] 24):=⟨_,rfl⟩;have U:w.gb k none:=by rw[r];exact((qhx _ _ none).t (qhx _ _ none)).t (qhx _ _ none)
 have G:k.heap[A]?=some (.cells #[.slice L u.length I,l] 24 (0,0)):=by rw[r,Q];exact qp (qp (qhH w _))
 have y:k.heap[A+1]?=some (.cells #[p.mn,p.mx,p.bears,p.tall] 28 (0,0)):=by
  rw[r];have:=qhH (w.alloc (.cells #[.slice L u.length I,l] 24)) (.cells #[p.mn,p.mx,p.bears,p.tall] 28);rw[qi6,<- Q] at this;exact qp this
 have V:k.heap[A+2]?=some (.cells #[.slice none 0 0,.int .i64 0] 24 (0,0)):=by
  rw[r];have:=qhH ((w.alloc (.cells #[.slice L u.length I,l] 24)).alloc (.cells #[p.mn,p.mx,p.bears,p.tall] 28)) (.cells #[.slice none 0 0,.int .i64 0] 24);rw[qi6,qi6,<- Q] at this;exact this
 have T:k.heap.size=A+3:=by rw[r,qi6,qi6,qi6,Q]
 have⟨q,c3,HW,Y,X,z,HP⟩:=q6C G V r Q U T hP;have n:=qhw (show ∀W,k.gb W none->W.cell? A=some (.slice L u.length I)/\W.cell? ⟨A,1,none⟩=some (.int .i64 l)/\W.cell? (A+1:Nat)=some (.int .i64 p.mn)/\W.cell? ⟨A+1,1,none⟩=some (.int .i64 p.mx)/\W.cell? ⟨A+1,2,none⟩=some (.int .i64 p.bears)/\W.cell? ⟨A+1,3,none⟩=some (.int .i64 p.tall) from λW h=>⟨q8 (bk h G) rfl,q8 (bk h G) rfl,q8 (bk h y) rfl,q8 (bk h y) rfl,q8 (bk h y) rfl,q8 (bk h y) rfl⟩);clear hP r Q U G y V T;go_enter Tp.x38,Tryz.ntmps38;go_upto_region 1 with(fail);rw[<- Y,<- HW];go_cut [] from 5 to 13 (λwx=>qfa k A l u p wx)
 case first=>
  refine qr 8 (λW=>W.cell? A=some (.slice L u.length I)/\W.cell? ⟨A,1,none⟩=some (.int .i64 l)/\W.cell? (A+1:Nat)=some (.int .i64 p.mn)/\W.cell? ⟨A+1,1,none⟩=some (.int .i64 p.mx)/\W.cell? ⟨A+1,2,none⟩=some (.int .i64 p.bears)/\W.cell? ⟨A+1,3,none⟩=some (.int .i64 p.tall)) (by kernel_rfl) (by kernel_rfl) (n _ (q9 k none)) (λhHeld=>?_);simp only[qi3,qi7,qii,qiB,qib,qij,qik,qiq,qin,qi9];refine tk 1 (h:=tk 2 (h:=tk 4 (h:=?_)));try go_frame
  have f:=qhw (q9 k none);refine rdy [0,5] ?_;refine cns 0 (λK i=>?_) (cns 5 (λK i=>?_) qN.nil)
  ·go_simp;have S:=qhw (show(k.drew.alloc (.cells #[] 28)).heap[k.heap.size]?=some (.cells #[] 28 (0,0)) by have:=qhH k.drew (.cells #[] 28);exact this);have s:=qhw (show A+3<=k.heap.size by have:=z.out;omega);replace f:=qhw (f.t (qhx k.drew (.cells #[] 28) none));refine i.out _ _ (n _ f) (λhHeld=>?_);clear i K;try go_frame
   refine rdy [3,5] ?_;refine cns 3 (λK i=>?_) (cns 5 (λK i=>?_) qN.nil)
   ·refine xA (.tmp 5) (.tmp 7) (HP.kept (X.t f)) S (s) F λO N M b a=>?_;have D:=qhw b;replace f:=qhw (ql7 (row:=none) f a (λj e=>.inl (by cases e;have:=s.out;have:=z.out;omega)));clear b a;refine i.out _ _ (n _ f) (λhHeld=>?_);clear i K;try go_frame
    refine rdc 5 λK i=>?_;go_simp;have C:=qhw (show(M.alloc (.cells #[p.mn,p.mx,p.bears,p.tall] 28)).heap[M.heap.size]?=some (.cells #[p.mn,p.mx,p.bears,p.tall] 28 (0,0)) by have:=qhH M (.cells #[p.mn,p.mx,p.bears,p.tall] 28);exact this);replace f:=qhw (f.t (qhx M (.cells #[p.mn,p.mx,p.bears,p.tall] 28) none));replace D:=qhw (D.alloc (.cells #[p.mn,p.mx,p.bears,p.tall] 28));refine i.out _ _ (n _ f) (λhHeld=>?_);clear i K;try go_frame
    refine rdc 6 λK i=>?_;refine Kg (.tmp 8) (.tmp 10) D C F (by have:=f.out.size;have:=z.out;omega) λg c w6 b a=>?_;have B:=qhw b;have d:=qhw (ql7 (row:=none) f a (λj e=>.inl (by have:=D.out.lt j e;have:=z.out;omega)));clear b a;refine i.out _ _ (n _ d) (λhHeld=>?_);clear i K;try go_frame
    refine tk 7 (h:=?_);try go_frame
    refine⟨by kernel_rfl,?_⟩;simp only[qig,qit];have z0:=q8 (bk d q) (o:=0) rfl;have Z:=qj (o:=0) (bk d q);clear hHeld;go_wp2;go_meet;exact qaf (bk d q) d B F
   ·go_simp;have C:=qhw (show((k.drew.alloc (.cells #[] 28)).alloc (.cells #[p.mn,p.mx,p.bears,p.tall] 28)).heap[k.heap.size+1]?=some (.cells #[p.mn,p.mx,p.bears,p.tall] 28 (0,0)) by have:=qhH (k.drew.alloc (.cells #[] 28)) (.cells #[p.mn,p.mx,p.bears,p.tall] 28);rw[qi6] at this;exact this);replace f:=qhw (f.t (qhx (k.drew.alloc (.cells #[] 28)) (.cells #[p.mn,p.mx,p.bears,p.tall] 28) none));replace S:=qhw (qp (p:=(.cells #[p.mn,p.mx,p.bears,p.tall] 28)) S);refine i.out _ _ (n _ f) (λhHeld=>?_);clear i K;try go_frame
    refine rdc 3 λK i=>?_;refine xA (.tmp 5) (.tmp 7) (HP.kept (X.t f)) S (s) F λO N M b a=>?_;have D:=qhw b;replace C:=qhw (bk a C);replace f:=qhw (ql7 (row:=none) f a (λj e=>.inl (by cases e;have:=s.out;have:=z.out;omega)));clear b a;refine i.out _ _ (n _ f) (λhHeld=>?_);clear i K;try go_frame
    refine rdc 6 λK i=>?_;refine Kg (.tmp 8) (.tmp 10) D C F (by have:=f.out.size;have:=z.out;omega) λg c w6 b a=>?_;have B:=qhw b;have d:=qhw (ql7 (row:=none) f a (λj e=>.inl (by have:=D.out.lt j e;have:=z.out;omega)));clear b a;refine i.out _ _ (n _ d) (λhHeld=>?_);clear i K;try go_frame
    refine tk 7 (h:=?_);try go_frame
    refine⟨by kernel_rfl,?_⟩;simp only[qig,qit];have z0:=q8 (bk d q) (o:=0) rfl;have Z:=qj (o:=0) (bk d q);clear hHeld;go_wp2;go_meet;exact qaf (bk d q) d B F
  ·go_simp;have C:=qhw (show(k.drew.alloc (.cells #[p.mn,p.mx,p.bears,p.tall] 28)).heap[k.heap.size]?=some (.cells #[p.mn,p.mx,p.bears,p.tall] 28 (0,0)) by have:=qhH k.drew (.cells #[p.mn,p.mx,p.bears,p.tall] 28);exact this);replace f:=qhw (f.t (qhx k.drew (.cells #[p.mn,p.mx,p.bears,p.tall] 28) none));refine i.out _ _ (n _ f) (λhHeld=>?_);clear i K;try go_frame
   refine rdc 0 λK i=>?_;go_simp;have S:=qhw (show((k.drew.alloc (.cells #[p.mn,p.mx,p.bears,p.tall] 28)).alloc (.cells #[] 28)).heap[(k.heap.size+1)]?=some (.cells #[] 28 (0,0)) by have:=qhH (k.drew.alloc (.cells #[p.mn,p.mx,p.bears,p.tall] 28)) (.cells #[] 28);rw[qi6] at this;exact this);have s:=qhw (show A+3<=(k.heap.size+1) by have:=z.out;omega);replace f:=qhw (f.t (qhx (k.drew.alloc (.cells #[p.mn,p.mx,p.bears,p.tall] 28)) (.cells #[] 28) none));replace C:=qhw (qp (p:=.cells #[] 28) C);refine i.out _ _ (n _ f) (λhHeld=>?_);clear i K;try go_frame
   refine rdc 3 λK i=>?_;refine xA (.tmp 5) (.tmp 7) (HP.kept (X.t f)) S (s) F λO N M b a=>?_;have D:=qhw b;replace C:=qhw (bk a C);replace f:=qhw (ql7 (row:=none) f a (λj e=>.inl (by cases e;have:=s.out;have:=z.out;omega)));clear b a;refine i.out _ _ (n _ f) (λhHeld=>?_);clear i K;try go_frame
   refine rdc 6 λK i=>?_;refine Kg (.tmp 8) (.tmp 10) D C F (by have:=f.out.size;have:=z.out;omega) λg c w6 b a=>?_;have B:=qhw b;have d:=qhw (ql7 (row:=none) f a (λj e=>.inl (by have:=D.out.lt j e;have:=z.out;omega)));clear b a;refine i.out _ _ (n _ d) (λhHeld=>?_);clear i K;try go_frame
   refine tk 7 (h:=?_);try go_frame
   refine⟨by kernel_rfl,?_⟩;simp only[qig,qit];have z0:=q8 (bk d q) (o:=0) rfl;have Z:=qj (o:=0) (bk d q);clear hHeld;go_wp2;go_meet;exact qaf (bk d q) d B F
 case rest=>
  obtain⟨O,N,hb,hg,hp⟩:=hcut;have z0:=q8 hb (o:=0) rfl;have z1:=q8 hb (o:=1) rfl;have x:=bk hg c3;have Z:=q8 x (o:=0) rfl;have z3:=q8 x (o:=1) rfl;have z4:=qj (o:=0) x;have z5:=qj (o:=1) x;have⟨b9,b6,b8⟩:=qY x hp hg;clear hb x hp hg;go_wp2;have hz:=qg (o:=1) (v:=.int .i64 l) (qg (o:=0) (v:=.slice O (u.length+1) N) b9);have H:=(qf wc (A+2) 0 (.slice O (u.length+1) N)).t (qf _ (A+2) 1 (.int .i64 l));exact qjw (v:=.agg #[.slice O (u.length+1) N,l]) (by simp[qkh,Tryz.results38,go_sem,qiA,hz]) rfl ⟨_,rfl,((qi2 w none).andThen (X.andThen (row:=none) b8 (by rintro j e;cases e;exact .inl (by have:=Y.out;omega))) (λj e=>by cases e)).andThen (row':=some (A+2)) H (by rintro j e;cases e;exact .inl (by have:=Y.out;omega)),(b6.kept H (by rintro R e;cases e;exact .inl (by omega))).mono (by have:=Y.out;omega) H.size⟩
end
section
open Go.RowKit
def vZ:∀(n:Nat) (l:List Int),l.Nodup->(∀x∈l,0<=x/\x<n)->l.length<=n
 | 0,l,_,h=>by
  cases l with
  | nil=>simp
  | cons x _=>have:=h x (by simp);omega
 | n+1,l,b,h=>by
  by_cases hm:(n:Int)∈l
  ·have d:=vZ n (l.erase n) (b.erase _) λx a=>by
    have c:=(b.mem_erase_iff).1 a;have:=h x c.2;have:=c.1;omega
   have:=List.length_erase_of_mem hm;omega
  ·have:=vZ n l b λx a=>by
    have c:=h x a;have:x≠n:=λe=>hm (e ▸ a);omega
   omega
def PIn.len5{a:List Par}{l:List Int}(h:PIn a l):l.length<=a.length:=vZ _ _ h.nd h.ok
structure qa9(w:qhy)(Bm Y Bp:Nat)(yb pb:Option qj5)(yc pc:Nat)(ps:List Par)(lim:Int)(l:List Int):Prop where
 m0:w.cell? Bm=some (.int .u8 (qW l:Nat))
 y0:w.cell? Y=some (.slice yb ps.length yc)
 y1:w.cell? ⟨Y,1,none⟩=some (.int .i64 lim)
 p0:w.cell? Bp=some (.slice pb l.length pc)
 hP:qn 0 w.heap.size w (.slice yb ps.length yc) ps
 hI:qd 0 w.heap.size w (.slice pb l.length pc) l
 pl:l.length<=pc
def qa9.kept{w w':qhy}{o Y k:Nat}{f j:Option qj5}{e i:Nat}{g:List Par}{d:Int}{l:List Int}(h:qa9 w o Y k f j e i g d l)(a:w.gb w' none):qa9 w' o Y k f j e i g d l :=
 ⟨a.cl h.m0,a.cl h.y0,a.cl h.y1,a.cl h.p0,(h.hP.kept a).mono (qhz _) a.size,(h.hI.kept a).mono (qhz _) a.size,h.pl⟩
def onB(a:List Par)(b:Int)(l:List Int)(n:Int):Bool:=decide (n∉l) && (decide (qK a (l++[n])<=b) && qw a (pre Par.mx a a.length) (l++[n]))
def q7A{I Y H:Nat}{M N:Option qj5}{L v:Nat}{i:List Par}{c:Int}{l:List Int}(n:Int)(w:qhy)(h:qa9 w I Y H M N L v i c l)(o:YOk i c)(A:PIn i l)(Z:0<=n/\n<i.length) :qiw Ya 128 #[n,.pointer (some I),.pointer (some Y),.pointer (some H)] w λe d=>e=.returned (.bool (onB i c l n))/\w.gb d none:=by
 have c3:=o.len;have hM:qW l<32:=vw _ 5 λy hy=>by have:=A.ok y hy;omega
 obtain⟨m,rfl⟩:∃m:Nat,n=m:=⟨n.toNat,by omega⟩;have C:m<5:=by omega
 have k:(qW l).testBit m=decide ((m:Int)∈l):=by
  rw[Bool.eq_iff_iff,Qw,decide_eq_true_eq];constructor
  ·rintro⟨x,u,b9⟩;have:=A.ok x u;obtain rfl:x=m:=by omega
   exact u
  ·exact λu=>⟨m,u,by simp⟩
 have X:∀(x:Bool) (w:qhy),(Op.unary .not (.bool x)).run Ya w=.ok (.bool (!x)) w:=λ_ _=>rfl;have⟨HA,Q,F,HB,HN⟩:=Zc h o A k Z;have z:∀W,w.gb W none->W.cell? I=some (.int .u8 (qW l:Nat))/\W.cell? Y=some (.slice M i.length L)/\W.cell? ⟨Y,1,none⟩=some (.int .i64 c)/\W.cell? H=some (.slice N l.length v):=λW hg=>
  have q:=h.kept hg
  ⟨q.m0,q.y0,q.y1,q.p0⟩
 have j:=qhw z;have O:=A.len5;have c8:=h.pl;clear h o A k Z z;go_enter Tp.x128,Tryz.ntmps128;go_wp2_with (fail);by_cases f:(m:Int)∈l
 ·have G:=qhw (show decide ((m:Int)∈l)=true by simpa using f);clear f;refine qr 17 (λd=>d.cell? I=some (.int .u8 (qW l:Nat))/\d.cell? Y=some (.slice M i.length L)/\d.cell? ⟨Y,1,none⟩=some (.int .i64 c)/\d.cell? H=some (.slice N l.length v)) (by kernel_rfl) (by kernel_rfl) (j _ (q9 _ _)) (λhHeld=>?_);simp only[qi3,qi7,qii,qiB,qib,qij,qik,qiq,qin,qi9];refine tk 0 (h:=tk 1 (h:=?_));try go_frame
  refine rdc 2 λK p=>?_;go_simp;go_at_call 129;refine(Z0 (qW l) m _ hM C).mono ?_;rintro e w2 ⟨rfl,rfl⟩;rw[HB,G];refine p.out _ _ hHeld (λhHeld=>?_);refine tk 3 (h:=tk 4 (h:=tku 5 (h:=tku 6 (h:=tku 7 (h:=tku 8 (h:=tku 9 (h:=tku 10 (h:=tku 11 (h:=tku 12 (h:=tku 13 (h:=tku 14 (h:=tku 15 (h:=tk 16 (h:=?_))))))))))))));try go_frame
  refine⟨by kernel_rfl,?_⟩;simp only[qig,qit];go_wp2;go_ret;exact⟨by simp[onB,G.out],q9 _ _⟩
 ·have G:=qhw (show decide ((m:Int)∈l)=false by simpa using f);have R:=qhw f;clear f;refine qr 15 (λd=>d.cell? I=some (.int .u8 (qW l:Nat))/\d.cell? Y=some (.slice M i.length L)/\d.cell? ⟨Y,1,none⟩=some (.int .i64 c)/\d.cell? H=some (.slice N l.length v)) (by kernel_rfl) (by kernel_rfl) (j _ (q9 _ _)) (λhHeld=>?_);simp only[qi3,qi7,qii,qiB,qib,qij,qik,qiq,qin,qi9];refine tk 0 (h:=tk 1 (h:=?_));try go_frame
  refine rdc 2 λK p=>?_;go_simp;go_at_call 129;refine(Z0 (qW l) m _ hM C).mono ?_;rintro e w2 ⟨rfl,rfl⟩;rw[HB,G];refine p.out _ _ hHeld (λhHeld=>?_);refine tk 3 (h:=tk 4 (h:=tk 5 (h:=tk 6 (h:=tk 7 (h:=tk 8 (h:=tk 9 (h:=tk 10 (h:=tk 11 (h:=tk 12 (h:=?_))))))))));try go_frame
  refine rdc 13 λK p=>?_;go_simp;have s:=qhw ((q9 w none).t (qhx w.drew (.cells #[m] 3) none));refine p.out _ _ (j _ s) (λhHeld=>?_);refine rdc 14 λK p=>?_;refine Ki (by kernel_rfl) (.tmp 17) (.tmp 19) rfl (nc:=v) (B:=w.heap.size) (y:=m) (by rfl) (by rfl) ((HA.kept s).hI) (kq w.drew _ _ _) (by omega) (λg d7 d q1 V U q5=>?_);have r:=qhw (s.t V);have S:=qhw U;clear q1 V U q5;refine p.out _ _ (j _ r) (λhHeld=>?_);try go_frame
  refine⟨by kernel_rfl,?_⟩;simp only[qig,qit];have P:=qhw (show PIn i (l++[(m:Int)]) from⟨λx u=>by
   rcases qkn.1 u with h | h
   ·exact F.ok x h
   ·obtain rfl:x=m:=by simpa using h
    exact HN,List.nodup_append.2 ⟨F.nd,by simp,λa ha b hb=>by
   obtain rfl:b=m:=by simpa using hb
   rintro rfl;exact R ha⟩,by simp;omega⟩)
  have a6:(l++[(m:Int)]).length=l.length+1:=by simp
  go_wp2_with (go_at_call 114;refine(q00 0 d.heap.size _ _ i c (l++[(m:Int)]) d ⟨_,rfl,(HA.kept r).hP⟩ (S.mono (qix _) (qhz _)) (qhz _) Q P).mono ?_;rintro e w5 ⟨rfl,D⟩;have T:=qhw (r.t D);clear D);go_ret;exact⟨by simp[onB,G.out],T⟩
end
section
def q3G(l:List Int)(x:Int):tot (l++[x])=tot l+x:=by
 induction l with
 | nil=>simp[tot]
 | cons a t b=>simp only[qi9,tot,b];omega
def Ks(a:List Par)(g:Nat->Int)(l:List Int)(m:Int)(hm:m<=30):∀k,(∀j,j<k->(a[(l[j]?.getD 0).toNat]?).isSome)->(m<=qI a g l k↔∀j p,j<k->a[(l[j]?.getD 0).toNat]?=some p->loadAt g l j+m<=p.bears)
 | 0,_=>by simp[qI,hm]
 | k+1,h=>by
  have i:=Ks a g l m hm k λj f=>h j (by omega);have⟨p,d⟩:=Option.isSome_iff_exists.1 (h k (by omega));simp only[qI,d];rw[Int.le_min,i];constructor
  ·rintro⟨b,n⟩ j q f c;by_cases e:j=k
   ·subst e;rw[d] at c;cases c;omega
   ·exact b j q (by omega) c
  ·intro b;have:=b k p (by omega) d;exact⟨λj q f=>b j q (by omega),by omega⟩
def Y9(c:List Par){g b:Nat->Int}(l:List Int)(d:∀i,g i<=b i):∀k,qI c b l k<=qI c g l k
 | 0=>Int.le_refl _
 | k+1=>by
  have e:=Y9 c l d k;have f:∀t:List Int,tot (t.map λx=>g x.toNat)<=tot (t.map λx=>b x.toNat):=λt=>by
   induction t with
   | nil=>exact Int.le_refl _
   | cons a t e=>simp only[qle,tot];have:=d a.toNat;omega
  have h:loadAt g l k<=loadAt b l k:=f _;simp only[qI];split<;>omega
end
section
open Go.RowKit
def Tp.x73:Yc 73 Tryz.f73:=Yd
def Tp.x241:Yc 241 Tryz.f241:=Yd
def Tp.x242:Yc 242 Tryz.f242:=Yd
@[simp] theorem Tp.callCra:Ye 73/\Ye 241/\Ye 242:=⟨Yf 73,Yf 241,Yf 242⟩
@[simp] theorem qhp(w:qhy):(method 355 170 (.agg #[]) "gladstone/pile.holds").run Ya w=.ok (241,.agg #[]) w:=by kernel_rfl
@[simp] theorem qho(w:qhy):(method 355 171 (.agg #[]) "gladstone/pile.holds").run Ya w=.ok (242,.agg #[]) w:=by kernel_rfl
def qc9(w:qhy):qiw Ya 241 #[.agg #[]] w λe a=>e=.returned (.bool false)/\w.gb a none:=by
 go_enter Tp.x241,Tryz.ntmps241;go_wp2;go_ret;exact⟨rfl,qhx _ _ none⟩
def q9o(w:qhy):qiw Ya 242 #[.agg #[]] w λe a=>e=.returned (.bool true)/\w.gb a none:=by
 go_enter Tp.x242,Tryz.ntmps242;go_wp2;go_ret;exact⟨rfl,qhx _ _ none⟩
def zo(a:List Par)(b gx:Nat->Int)(l:List Int)(i:Nat):Int:=K7 (!jY a b l i) (!jY a gx l i)
def jB(a:List Par)(b gx:Nat->Int)(l:List Int):List Int:=(qiz l.length).map (zo a b gx l)
def q06(a:List Par)(b gx:Nat->Int)(l:List Int):(jB a b gx l).length=l.length:=by simp[jB]
def Yu(a:List Par)(b gx:Nat->Int)(l:List Int)(k:Nat)(h:k<l.length):(jB a b gx l).take (k+1)=(jB a b gx l).take k++[zo a b gx l k]:=by
 rw[qja];simp[jB,h]
def qcz(H u:Nat)(pv qv:qhC)(b:List Par)(c:Int)(l:List Int)(w:qhy)(hP:qn H u w pv b)(hI:qd H u w qv l)(t4:u<=w.heap.size)(s:YOk b c)(R:POk b c l) :qiw Ya 73 #[.agg #[pv,c],qv] w λe z=>∃v,e=.returned (.tuple #[v,.int .i64 0])/\w.gb z none/\qd w.heap.size z.heap.size z v (jB b (pre Par.mn b b.length) (pre Par.mx b b.length) l):=by
 have⟨i0,m8,m3,l9,l8⟩:=qk1 Tp.info3p;obtain⟨U,T,rfl,s8,-⟩:=hP.cell;obtain⟨base,e5,rfl,t3,-⟩:=hI.cell;have⟨A,w1,hA,Z,N,b0⟩:=qT w (.cells #[.slice U b.length T,c] 24);have m6:w1.heap.size=A+1:=by rw[Z,qi6,hA]
 have g6:=qhw (hI.kept N);have e6:=qhw (hP.kept N);have⟨n8,HA,p6⟩:=qY Z hA N;have q0:=q8 b0 (o:=0) rfl;have q1:=q8 b0 (o:=1) rfl;have t5:u<=A:=by omega
 have⟨HY,n9⟩:=qF s R;have m7:l.length<=100:=R.len;have X:∀x∈l,0<=x/\x<b.length:=R.ok;have b7:=qhw X;clear hP hI s R Z hA N b0 X;go_enter Tp.x73,Tryz.ntmps73;go_upto_region 1 with(fail);rw[<- HA.out,<- n8.out];go_upto_region 2 with(go_at_call 81;refine(kG H u _ _ b c l _ e6.out g6.out (by omega) HY.out n9.out).mono ?_;rintro e w2 ⟨rfl,d9⟩;have P:=qhw d9;clear d9);have m5:=P.out.size;obtain⟨Y,L⟩:∃Y,Y=w2.heap.size:=⟨_,rfl⟩;obtain⟨d,B⟩:∃d,d=w2.alloc (.cells #[.slice U b.length T,c] 91):=⟨_,rfl⟩;have M:w2.gb d none:=by rw[B];exact qhx _ _ none
 have e4:d.heap[Y]?=some (.cells #[.slice U b.length T,c] 91 (0,0)):=by rw[B,L];exact qhH _ _
 have m4:d.heap.size=Y+1:=by rw[B,qi6,L]
 rw[<- L,<- B];clear q0 q1;have Q:=qhw e4;have h9:=qhw ((p6.out.t P.out).t M);have p5:=qhw ((g6.out.kept P.out).kept M);have p3:=qhw ((e6.out.kept P.out).kept M);have t8:A<Y:=by omega
 have n:u<=d.heap.size:=by omega
 have t1:w.heap.size<=d.heap.size:=h9.out.size;clear M e4 B L m6 m5 m4;have s0:=q8 Q.out (o:=0) rfl;have s1:=q8 Q.out (o:=1) rfl;go_upto_region 5 with(fail);have a:=qhw (qi2 d none);have c3:∀W,d.gb W none->j4 H u W (.agg #[.slice U b.length T,c]) b c:=λW h=>⟨_,rfl,p3.out.kept h⟩;have c9:∀W,d.gb W none->qd H u W (.slice base l.length e5) l:=λW h=>p5.out.kept h;have c8:∀W,d.gb W none->W.cell? Y=some (.slice U b.length T)/\W.cell? ⟨Y,1,none⟩=some (.int .i64 c):=λW h=>
  ⟨q8 (bk h Q.out) rfl,q8 (bk h Q.out) rfl⟩
 have⟨O,g5,G⟩:=qY c3 c9 c8;clear c3 c9 c8;have r:=qhw (G.out d (qi2 d none));obtain⟨q,a7⟩:∃q,q=pre Par.mn b b.length:=⟨_,rfl⟩;obtain⟨gx,a6⟩:∃gx,gx=pre Par.mx b b.length:=⟨_,rfl⟩;have d6:∀i,0<=q i/\q i<=1000:=by rw[a7];exact HY.out.mn
 have d5:∀i,0<=gx i/\gx i<=1000:=by rw[a6];exact HY.out.mx
 have⟨g8,g7,k5,k0⟩:=zI a7 a6 d6 d5;clear a7 a6 d6 d5;go_region_held3 (λz=>z.cell? Y=some (.slice U b.length T)/\z.cell? ⟨Y,1,none⟩=some (.int .i64 c))
  (first | exact r.out)
  (first
   | (go_at_call 92;refine(xa H u _ b c _ (O.out _ (by first | exact a.out | exact a.out.t (q9 _ _))) (qi1 n (by first | exact a.out.size | exact(a.out.t (q9 _ none)).size)) HY.out.len).mono ?_;rintro e V ⟨rfl,f⟩;rw[<- g7.out];replace a:=qhw (show d.gb V none by first | exact a.out.t f | exact(a.out.t (q9 _ _)).t f);replace r:=qhw (G.out V a.out);clear f)
   | (go_at_call 126;refine(JP H u _ _ b c l _ _ (O.out _ (by first | exact a.out | exact a.out.t (q9 _ _))) (g5.out _ (by first | exact a.out | exact a.out.t (q9 _ _))) (qi1 n (by first | exact a.out.size | exact(a.out.t (q9 _ none)).size)) HY.out.len b7.out (by omega) (by first | exact k5.out | exact k0.out)).mono ?_;rintro e V ⟨lv,rfl,f,hL⟩;obtain⟨mb,mc,rfl,-⟩:=kM hL;have HM:=qhw hL;replace a:=qhw (show d.gb V none by first | exact a.out.t f | exact(a.out.t (q9 _ _)).t f);replace r:=qhw (G.out V a.out);clear f hL))
 rename_i wa wm hHeld
 clear hHeld s0 s1;have u7:=qhw a.out;have s0:=r.out.1;have s1:=r.out.2;go_upto_region 6 with(fail);go_region_held3 (λz=>z.cell? Y=some (.slice U b.length T)/\z.cell? ⟨Y,1,none⟩=some (.int .i64 c))
  (first | exact r.out)
  (first
   | (go_at_call 93;refine(xf H u _ b c _ (O.out _ (by first | exact a.out | exact a.out.t (q9 _ _))) (qi1 n (by first | exact a.out.size | exact(a.out.t (q9 _ none)).size)) HY.out.len).mono ?_;rintro e y ⟨rfl,f⟩;rw[<- g8.out];replace HM:=qhw (HM.out.kept (show World.gb _ y none by first | exact f | exact(q9 _ _).t f) (qnB _));replace a:=qhw (show d.gb y none by first | exact a.out.t f | exact(a.out.t (q9 _ _)).t f);replace r:=qhw (G.out y a.out);clear f)
   | (go_at_call 126;refine(JP H u _ _ b c l _ _ (O.out _ (by first | exact a.out | exact a.out.t (q9 _ _))) (g5.out _ (by first | exact a.out | exact a.out.t (q9 _ _))) (qi1 n (by first | exact a.out.size | exact(a.out.t (q9 _ none)).size)) HY.out.len b7.out (by omega) (by first | exact k5.out | exact k0.out)).mono ?_;rintro e y ⟨lv,rfl,f,hL⟩;obtain⟨lb,lc,rfl,-⟩:=kM hL;have HL:=qhw hL;replace HM:=qhw (HM.out.kept (show World.gb _ y none by first | exact f | exact(q9 _ _).t f) (qnB _));replace a:=qhw (show d.gb y none by first | exact a.out.t f | exact(a.out.t (q9 _ _)).t f);replace r:=qhw (G.out y a.out);clear f hL))
 rename_i hHeld
 clear hHeld s0 s1;have⟨s6,s5,e0,e9⟩:=kM HL.out;injection e0 with e1 e2 e3;subst e1 e3;have⟨s3,s2,e0,e7⟩:=kM HM.out;injection e0 with e1 e2 e3;subst e1 e3;have⟨p8,p7⟩:=qF e9 e7;have g9:=qhw (h9.out.t a.out);clear e9 e7;go_wp2;go_loopw [8,32] (λov iv wr=>∃k:Nat,iv=.int .i64 k/\k<=l.length/\y.gb wr none/\wr.ownsRow y.heap.size 3 1 ov k (((jB b q gx l).take k).map (qim .i64))) (λ_ iv _=>(l.length - qj7 iv).toNat)
 case atStart=>exact⟨0,rfl,by omega,qi2 _ _,by simpa using qjE _ _ _ _⟩
 case round=>
  obtain⟨k,rfl,hk,hG,hO⟩:=hrel;obtain⟨oa,om,oc,rfl⟩:=zi hO;have⟨HG,HO⟩:=qF hG hO;have t2:=hG.size;by_cases D:k<l.length
  ·obtain⟨LB,rfl,-,t7,d8⟩:=p8.out (by omega);obtain⟨MB,rfl,-,t6,d7⟩:=p7.out (by omega);obtain⟨x,I⟩:∃x,l[k]?=some x:=⟨_,qhG D⟩;have⟨s9,X⟩:=b7.out x (qih I);obtain⟨p,R⟩:∃p,b[x.toNat]?=some p:=⟨_,qhG (by omega)⟩;have a8:∀g,(yQ b g l)[k]?=some (Zm p (loadAt g l k)):=λg=>by simp only[yQ,qjA,qll D,qjo,JQ,I,qi0,R]
   have s:∀g,jY b g l k=decide (loadAt g l k<=p.bears):=λg=>by unfold jY;rw[I];simp[R]
   have x1:=hG.cl ((d8 k D).t (a8 q));have x2:=hG.cl ((d7 k D).t (a8 gx));have HS:Hid ((jB b q gx l).take (k+1)=(jB b q gx l).take k++[K7 (!decide (loadAt q l k<=p.bears)) (!decide (loadAt gx l k<=p.bears))]):=qhw (by rw[Yu b q gx l k D];unfold zo;rw[s,s]);generalize loadAt q l k=p1 at x1 HS;generalize loadAt gx l k=p2 at x2 HS;have q6:(k:Int)<(l.length:Int):=by omega
   clear d8 d7 a8 s R I hG hO;by_cases c1:p.bears<p1<;>by_cases c2:p.bears<p2;all_goals
    have d1:decide (p1<=p.bears)=!decide (p.bears<p1):=by rw[<- decide_not,decide_eq_decide];omega
    have d2:decide (p2<=p.bears)=!decide (p.bears<p2):=by rw[<- decide_not,decide_eq_decide];omega
    have HD:=qhw HS.out;simp only[Zm,Jj,c1,if_true,if_false] at x1;simp only[Zm,Jj] at x2;clear HS;go_upto_region 9 with(fail);have⟨X2,r⟩:=qF x2 x2;have a:=qhw (qi2 wr none);clear x2;go_region_held3 (λz=>z.cell? ⟨MB,k,none⟩=some (.iface (if p.bears<p2 then 170 else 171) (.agg #[])))
     (first | exact r.out | exact(qhx _ _ none).cl r.out | exact h8.out.cell ((qhx _ _ none).cl r.out) (λe=>by have:=(HO.out.lt MB e.symm).1;omega))
     (first
      | (go_at_call 241;refine(qc9 _).mono ?_;rintro e d ⟨rfl,f⟩;replace a:=qhw (show wr.gb d none by first | exact a.out.t f | exact(a.out.t (q9 _ _)).t f);replace r:=qhw (show d.cell? ⟨MB,k,none⟩=_ from a.out.cl X2.out);clear f)
      | (go_at_call 242;refine(q9o _).mono ?_;rintro e d ⟨rfl,f⟩;replace a:=qhw (show wr.gb d none by first | exact a.out.t f | exact(a.out.t (q9 _ _)).t f);replace r:=qhw (show d.cell? ⟨MB,k,none⟩=_ from a.out.cl X2.out);clear f)
      | (go_at_call 95;refine(JZ _ _ _).mono ?_;rintro e d ⟨rfl,rfl⟩)
      | (refine qn0 _ (by rfl) _ _ _ (by rfl) y.heap.size 3 i0 _ 1 8 Tp.und29' m8 m3 l9 l8 rfl (by omega) (.slice oa om oc) k (((jB b q gx l).take k).map (qim .i64)) (by rfl) (by exact(HO.out.kept a.out (by cases(qiH oa om oc).ownBlock<;>simp)).alloc _) ⟨d.heap.size,0,none⟩ 1 1 [.int .i64 _] (by rfl) (by rfl) (qjh (cs:=#[.int .i64 _]) (t:=3) (fr:=(0,0)) (qhH d _)) (by simp[qjF]) (by omega) (by unfold qlc;omega) (by omega) (by simp;have:=a.out.size;omega) (d.heap.size+1) (by simp) ?_;intro gg e5 V C F n2 m9;have p4:=qhw C;have h8:=qhw F;clear C F n2 m9))
    have S:y.gb V none:=((HG.out.t a.out).t (qhx _ _ none)).andThen h8.out (λj e=>.inl (HO.out.lt j e).1);have HF:=qhw S;clear S;go_wp2;go_roundw
    case rel=>
     refine⟨k+1,by simp,by omega,HF.out,?_⟩;have h5:=p4.out;simp only[HD.out,d1,d2,c1,c2,decide_true,decide_false,qng,qmF,qk0,qle,qna];exact h5
    case measure=>simp[qj7];omega
  ·obtain rfl:k=l.length:=by omega
   clear hG hO;go_wp2;go_ret2;have h0:=HO.out;rw[show(jB b q gx l).take l.length=jB b q gx l from qlx (by simp[jB])] at h0;refine⟨_,rfl,g9.out.t HG.out,?_⟩;rw[<- g8.out,<- g7.out];exact(qd.own h0 (by rw[q06];omega)).mono g9.out.size (qhz _)
end
section
def Ym{g b:Nat->Int}(d:∀i,g i<=b i)(l:List Int)(k:Nat):loadAt g l k<=loadAt b l k:=by
 have c:∀t:List Int,tot (t.map λx=>g x.toNat)<=tot (t.map λx=>b x.toNat):=λt=>by
  induction t with
  | nil=>exact Int.le_refl _
  | cons a t e=>simp only[qle,tot];have:=d a.toNat;omega
 exact c _
def q1B{a:List Par}{g b:Nat->Int}(c:∀i,g i<=b i){l:List Int}{k:Nat}(h:jY a b l k=true):jY a g l k=true:=by
 unfold jY at h ⊢;split at h
 ·have:=Ym c l k;have:=of_decide_eq_true h;exact decide_eq_true (by omega)
 ·cases h
def jL{b:List Par}{g:Nat->Int}{l:List Int}:qw b g l=true↔∀k,k<l.length->jY b g l k=true:=by
 unfold qw;rw[qje];exact⟨λh k a=>h k (qkg.2 a),λh k a=>h k (qkg.1 a)⟩
def xC{a:List Par}{g b:Nat->Int}(d:∀i,g i<=b i){l:List Int}(h:qw a b l=true):qw a g l=true :=
 jL.2 λk c=>q1B d (jL.1 h k c)
def YOk.le{a:List Par}{b:Int}(h:YOk a b)(i:Nat):pre Par.mn a a.length i<=pre Par.mx a a.length i:=by
 unfold pre;split
 ·rename_i c
  rw[qhG c];have:=h.each _ (qnD c);simp only;omega
 ·omega
def JD(a:List Par)(g:Nat->Int)(l:List Int):∀k,qI a g l k<=30
 | 0=>Int.le_refl _
 | k+1=>by
  have:=JD a g l k;simp only[qI];split<;>omega
def q7v{a:List Par}{l:List Int}(c:∀x∈l,0<=x/\x<a.length){j:Nat}(b:j<l.length):∃p,a[(l[j]?.getD 0).toNat]?=some p:=by
 rw[qhG b];have:=c _ (qnD b);exact⟨_,qhG (by simp only[qi0];omega)⟩
def ZV(b:List Par)(g:Nat->Int)(l:List Int)(d:∀x∈l,0<=x/\x<b.length):qw b g l=decide (0<=qI b g l l.length):=by
 have f:=Ks b g l 0 (by decide) l.length λj c=>by have⟨p,a⟩:=q7v d c;rw[a];rfl
 rw[Bool.eq_iff_iff,decide_eq_true_eq,f,jL];constructor
 ·intro h j p c a;have:=h j c;unfold jY at this;rw[a] at this;have:=of_decide_eq_true this;omega
 ·intro h k e;have⟨p,a⟩:=q7v d e;have:=h k p e a;unfold jY;rw[a];exact decide_eq_true (by omega)
end
section
open Go.RowKit
def q4h(lo hi:Nat)(T:qhC)(s:List Par)(f:Int)(p:Par)(b g:Nat)(w:qhy)(hP:ze lo hi w T s)(V:qQ w b g)(hg:g<100000) :qiw Ya 25 #[.agg #[T,f],.agg #[p.mn,p.mx,p.bears,p.tall],.pointer (some b)] w λe c =>∃d i U S Z,qd8 4 d i/\e=.returned (.slice (some ⟨Z,0,none⟩) 3 3)/\Tn b (g+31) w c/\w.heap.size<=Z/\c.heap[Z]?=some (.cells #[T,f,U,.int .i64 i,S,.int .i64 i] 24 (0,0)) /\qn w.heap.size c.heap.size c U d/\qn w.heap.size c.heap.size c S (d++[p]):=by
 obtain⟨B,z,rfl,d8,hc⟩:=hP.cell;obtain⟨A,w1,hA,l,H,L,I,-⟩:=zj w (.cells #[.slice B s.length z,f] 24) (.cells #[p.mn,p.mx,p.bears,p.tall] 28);have F:qQ w1 b g:=by rw[l];exact(V.alloc _).alloc _
 have e8:b<A:=by rw[hA];exact V.lt
 have⟨P,HW,HA,r,R,Q⟩:=KX F l hA H L I;clear hP hc l hA H L I V F;go_enter Tp.x25,Tryz.ntmps25;go_upto_region 1 with(fail);rw[<- HA,<- HW];go_upto_region 2 with(go_at_call 33;refine(q5D b g 4 w1 P hg (by omega)).mono ?_;rintro e w2 ⟨d,i,U,C,rfl,G,n⟩;have O:=qhw G;have P2:=qhw n;have YD:=qhw C;obtain⟨x,v,rfl,e4,-⟩:=n.cell;clear G n C);obtain⟨M,Y⟩:∃M,M=w2.heap.size:=⟨_,rfl⟩;rw[<- Y];have a:=qhx w2 (.cells #[.slice x d.length v,.int .i64 i] 24) none;have d9:d.length<=4:=YD.out.len;refine jK (λu=>w.gb u (some b)/\qQ u b (g+31)/\M<u.heap.size/\u.heap[A]?=some (.cells #[.slice B s.length z,f] 24 (0,0))/\u.heap[A+1]?=some (.cells #[p.mn,p.mx,p.bears,p.tall] 28 (0,0))/\u.heap[M]?=some (.cells #[.slice x d.length v,.int .i64 i] 24 (0,0))/\qn w.heap.size u.heap.size u (.slice x d.length v) d)
  ⟨((((qi2 w (some b)).andThen r (λj e=>by cases e)).andThen O.1 (λj e=>.inr e)).andThen a (λj e=>by cases e)),O.2.alloc _,by rw[qi6];omega,bk a (blk O.1 (by simp;omega) R),bk a (blk O.1 (by simp;omega) Q),by rw[Y];exact qhH _ _,(P2.alloc _).mono r.size a.size⟩ (λu hF=>?_)
 obtain⟨f1,f2,f3,f4,N,f6,f7⟩:=hF;have q:=qhw (show ∀c,u.gb c none->c.cell? A=some (.slice B s.length z)/\c.cell? ⟨A,1,none⟩=some (.int .i64 f)/\c.cell? (A+1:Nat)=some (.int .i64 p.mn)/\c.cell? ⟨A+1,1,none⟩=some (.int .i64 p.mx)/\c.cell? ⟨A+1,2,none⟩=some (.int .i64 p.bears)/\c.cell? ⟨A+1,3,none⟩=some (.int .i64 p.tall)/\c.cell? M=some (.slice x d.length v)/\c.cell? ⟨M,1,none⟩=some (.int .i64 i) from λc h=>⟨q8 (bk h f4) rfl,q8 (bk h f4) rfl,q8 (bk h N) rfl,q8 (bk h N) rfl,q8 (bk h N) rfl,q8 (bk h N) rfl,q8 (bk h f6) rfl,q8 (bk h f6) rfl⟩);have D:w.heap.size<=u.heap.size:=f1.size;have⟨F1,F2,F7⟩:=qY f1 f2 f7;have X:Hid ((d++[p]).length=d.length+1):=qhw (by simp);clear O P2 P R Q r a Y f1 f2 f3 f4 N f6 f7;refine qr 6 (λc=>c.cell? A=some (.slice B s.length z)/\c.cell? ⟨A,1,none⟩=some (.int .i64 f)/\c.cell? (A+1:Nat)=some (.int .i64 p.mn)/\c.cell? ⟨A+1,1,none⟩=some (.int .i64 p.mx)/\c.cell? ⟨A+1,2,none⟩=some (.int .i64 p.bears)/\c.cell? ⟨A+1,3,none⟩=some (.int .i64 p.tall)/\c.cell? M=some (.slice x d.length v)/\c.cell? ⟨M,1,none⟩=some (.int .i64 i)) (by kernel_rfl) (by kernel_rfl) (q _ (q9 u none)) (λhHeld=>?_);simp only[qi3,qi7,qii,qiB,qib,qij,qik,qiq,qin,qi9];refine tk 0 (h:=tk 1 (h:=tk 2 (h:=tk 3 (h:=?_))));try go_frame
 refine rdc 4 λK hK=>?_;go_simp;go_at_call 38;refine(q8l 0 u.heap.size _ d i p u.drew ((F7.kept (q9 u none)).mono (qix _) (qhz _)).g (by omega)).mono ?_;rintro e w6 ⟨S,rfl,o,k⟩;have y:=qhw ((q9 u none).t o);have W:=o.size;obtain⟨wb,wc,rfl,-,-⟩:=k.cell;rw[X] at k ⊢;have P6:=qhw k;refine hK.out _ _ (q _ y) (λhHeld=>?_);clear o k;try go_frame
 refine rdc 5 λK hK=>?_;go_simp;have a:=qhx w6 (.cells #[.slice B s.length z,f,.slice x d.length v,.int .i64 i,.slice wb (d.length+1) wc,.int .i64 i] 24) none;refine hK.out _ _ (q _ (y.t a)) (λhHeld=>?_);try go_frame
 refine⟨by kernel_rfl,?_⟩;simp only[qig,qit];have b0:=qhw a;clear hHeld a;go_wp2;go_ret;have a:=b0.out;refine⟨d,i,_,_,w6.heap.size,YD,rfl,⟨(F1.andThen y (λj e=>by cases e)).andThen a (λj e=>by cases e),(F2.kept y).alloc _⟩,qi1 D W,qhH _ _,?_,?_⟩
 ·exact((F7.kept y).alloc _).mono (qhz _) (qi1 y.size a.size)
 ·exact(P6.alloc _).mono D a.size
def q92(Q:Nat)(P pv:qhC)(l:List Int)(z:List Par)(a n:Int)(b g:Nat)(w:qhy)(hL:∃S R,P=.slice S l.length R)(hP:qn Q w.heap.size w pv z)(a6:b<Q)(ht:qQ w b g)(hg:g<90000)(h5:z.length<=5)(a8:0<=a)(a7:a<=1000)(D:∀p∈z,0<=p.tall/\p.tall<=100) :qiw Ya 26 #[P,.agg #[pv,a],n,.pointer (some b)] w λe y =>∃m B i ab ac Z,POk z a m/\e=.returned (.slice (some ⟨Z,0,none⟩) 3 3)/\Tn b (g+11) w y/\w.heap.size<=Z/\y.heap[Z]?=some (.cells #[P,.slice B m.length i,.slice ab (m.length+1) ac] 29 (0,0)) /\qd w.heap.size y.heap.size y (.slice B m.length i) m/\m.length<=i/\qd w.heap.size y.heap.size y (.slice ab (m.length+1) ac) (m++[n])/\m.length+1<=ac:=by
 have⟨i0,a9,V,U,T⟩:=qk1 Tp.info3p;obtain⟨S,R,rfl⟩:=hL;obtain⟨yb,yc,rfl,g9,-⟩:=hP.cell;have⟨A,w1,hA,k,f,v⟩:=qT w (.cells #[.slice yb z.length yc,a] 24);have F:qQ w1 b g:=by rw[k];exact ht.alloc _
 have c9:=qhw ((hP.kept f).mono (qhz _) f.size);have q0:=q8 v (o:=0) rfl;have q1:=q8 v (o:=1) rfl;have⟨c8,HW,HA,x,c3⟩:=Zc F k hA f D;clear hP k hA f v ht F D;go_enter Tp.x26,Tryz.ntmps26;go_upto_region 1 with(fail);rw[<- HA,<- HW];go_upto_region 2 with(go_at_call 34;refine(q6E b g Q _ z a w1 c8 hg c9 a6 h5 a8 a7 c3).mono ?_;rintro e M ⟨m,mv,H,rfl,I,r,h⟩;have N2:=qhw I;have I2:=qhw r;have PK:=qhw H;obtain⟨B,i,rfl,h9,-⟩:=r.cell;have X:m.length<=i:=h _ _ _ rfl;clear I r H h);have Y:m.length<=100:=PK.out.len;have C:w.heap.size<=M.heap.size:=qi1 x.size N2.1.size;go_wp2_with (first
  | (go_at_call 28;refine(qc4 0 _ _ m M (I2.mono (qix _) (qhz _)) (qhz _) (by omega)).mono ?_;rintro e w3 ⟨kv,rfl,u,q⟩;obtain⟨ka,kc,rfl,-⟩:=kM q;have KO:=qhw q;have G3:=qhw u;have h8:=u.size;clear u q)
  | (at_builtin;(refine ql8 _ rfl _ _ 29 rfl M.heap.size 3 i0 _ 1 8 Tp.und29' a9 V U T rfl (by decide) (.slice ka m.length kc) m.length _ rfl (KO.alloc _) ⟨w3.heap.size,0,none⟩ 1 1 [.int .i64 n] rfl rfl (qjh (cs:=#[n]) (t:=3) (fr:=(0,0)) (qhH w3 _)) (by simp[qjF]) (by unfold qlc;omega) (by omega) (by simp;omega) ?_);intro v4 L c d _;obtain⟨g4,N,rfl⟩:=qme c;have X4:=qhw c;have O:=qhw (ql7 (row:=none) (G3.t (qhx _ _ none)) d (λj e=>.inl (KO.lt j e).1));have G:=O.out.size;clear c d))
 go_ret;have hx:=X4.out;have W:qd M.heap.size L.heap.size L (.slice (some g4) (m.length+1) N) (m++[n]):=by
  have:=qd.own (l:=m++[n]) (by simpa using hx) (by simp;omega);exact this
 have b0:m.length+1<=N:=by
  rcases hx.2 with⟨e,-⟩ | ⟨g,k9,k8,e,-,-,hc,-⟩
  ·cases e
  ·cases e;exact hc
 have s:=qhx L (.cells #[.slice S l.length R,.slice B m.length i,.slice (some g4) (m.length+1) N] 29) none;refine⟨m,B,i,some ⟨g4,0,none⟩,N,L.heap.size,PK,rfl,⟨((((qi2 w (some b)).andThen x (λj e=>by cases e)).andThen N2.1 (λj e=>.inr e)).andThen O (λj e=>by cases e)).andThen s (λj e=>by cases e),(N2.2.kept O).alloc _⟩,qi1 C G,qhH _ _,?_,X,?_,b0⟩
 ·exact(((I2.kept O).alloc _)).mono x.size (qi1 G s.size)
 ·exact(W.alloc _).mono C s.size
def qfC(a b c d e f g h:Int)(w:qhy):(Op.equalIn 10000 28 (.agg #[a,b,c,d]) (.agg #[e,f,g,h])).run Ya w=.ok (decide (a=e/\b=f/\c=g/\d=h)) w:=by
 have u26:Ya.underlying 26=Tryz.prog.underlying 26:=Tp.und 26;have u28:Ya.underlying 28=Tryz.prog.underlying 28:=Tp.und 28;have u3:Ya.underlying 3=some (.int .i64):=by rw[Tp.und];exact Tryz.underlying3
 have l:Ya.underlying 28=some (.struct (Ya.fieldsOf 28)):=by kernel_rfl
 have k:Ya.underlying 26=some (.struct (Ya.fieldsOf 26)):=by kernel_rfl
 have j:Ya.stoodInHeld 28=false:=by kernel_rfl
 have i:Ya.stoodInHeld 26=false:=by kernel_rfl
 rw[show(10000:Nat)=9998+1+1 from rfl,run_equalIn_agg w (9998+1) 28 _ _ l j];simp only[Program.fieldsOf,u28,Tryz.underlying28];go_simp;by_cases q:a=e<;>by_cases p:b=f<;>by_cases o:c=g<;>by_cases n:d=h<;>simp[q,p,o,n]
def qdH(a b c d e f g h:Int)(w:qhy):(binOp .neq 28 (.agg #[a,b,c,d]) (.agg #[e,f,g,h])).run Ya w=.ok (.bool (!decide (a=e/\b=f/\c=g/\d=h))) w:=by
 rw[run_neq_struct,qfC];rfl
def q94(c:BinOp)(x y:qj0)(a b:Array qhC)(w:qhy):(eqGuard c 28 x y (.agg a) (.agg b)).run Ya w=.ok () w:=run_eqGuard_agg w c 28 x y a b (by kernel_rfl)
def q0z(la ha lb hb:Nat)(va vb:qhC)(a b:List Par)(j y:Int)(w:qhy)(V:q5v la ha w va a j)(U:q5v lb hb w vb b y) :qiw Ya 32 #[va,vb] w λe w'=>e=.returned (.bool (decide (j=y/\a=b)))/\w.gb w' none:=by
 obtain⟨pa,rfl,V⟩:=V;obtain⟨pb,rfl,U⟩:=U;obtain⟨ba,ca,rfl,l7,R⟩:=V.cell;obtain⟨bb,cb,rfl,l6,h2⟩:=U.cell;obtain⟨X,w1,hX,L,O,v,u,-⟩:=zj w (.cells #[.slice ba a.length ca,j] 24) (.cells #[.slice bb b.length cb,y] 24);have⟨H1,H2,HW,HX,n⟩:=Zc R h2 L hX O;have q0:=q8 v (o:=0) rfl;have q1:=q8 v (o:=1) rfl;have q2:=q8 u (o:=0) rfl;have q3:=q8 u (o:=1) rfl;clear R h2 V U L hX O v u;by_cases f:j=y;rotate_left
 ·have x:=qhw (show decide (j=y/\a=b)=false from decide_eq_false λh=>f h.1);have l5:(j != y)=true:=by simp[f]
  clear f;go_enter Tp.x32,qrr;go_upto_region 1 with(fail);rw[<- HX,<- HW];go_wp2;go_ret;exact⟨by rw[x];rfl,n⟩
 subst f;rw[show decide (j=j/\a=b)=decide (a=b) by simp];by_cases d:a.length=b.length
 ·have HL:=qhw d;have s:((a.length:Int) != (b.length:Int))=false:=by rw[d];simp
  clear d;go_enter Tp.x32,qrr;go_upto_region 1 with(fail);rw[<- HX,show(w.alloc (.cells #[.slice ba a.length ca,j] 24)).alloc (.cells #[.slice bb b.length cb,j] 24)=w1 from HW.symm];go_wp2;go_loopw [5] (λiv wr=>∃k:Nat,iv=.int .i64 k/\k<=a.length/\(∀i,i<k->a[i]?=b[i]?)/\w1.gb wr none) (λiv _=>(a.length - qj7 iv).toNat)
  case atStart=>exact⟨0,rfl,by omega,λi T=>absurd T (by omega),qi2 _ _⟩
  case round=>
   obtain⟨k,rfl,hk,M,z⟩:=hrel;have⟨S,HG⟩:=qF M z;have r0:=z.cl q0;have r2:=z.cl q2;clear M;by_cases r:k<a.length
   ·have l:k<b.length:=by have:=HL.out;omega
    obtain⟨A1,o1,rfl,-,-,-,Q⟩:=H1.out (by intro e;rw[e] at r;simp at r);obtain⟨B1,o2,rfl,-,-,-,P⟩:=H2.out (by intro e;rw[e] at l;simp at l);have⟨p,e1,I,H,G,F⟩:=Q k r;have⟨q,e2,D,C,B,A⟩:=P k l;have c:=n.out.t z;have x1:=c.cl I;have x2:=c.cl H;have x3:=c.cl G;have x4:=c.cl F;have y1:=c.cl D;have y2:=c.cl C;have y3:=c.cl B;have y4:=c.cl A;obtain⟨p1,p2,p3,p4⟩:=p;obtain⟨z1,Z,Y,W⟩:=q;dsimp only at x1 x2 x3 x4 y1 y2 y3 y4;have l8:(k:Int)<(b.length:Int):=by omega
    have l9:(k:Int)<(a.length:Int):=by omega
    have⟨E1,E2⟩:=qF e1 e2;clear Q P z e1 e2 I H G F D C B A c;have N:=qdH p1 p2 p3 p4 z1 Z Y W;have m3:=q94 .neq (.tmp 31) (.tmp 36) #[p1,p2,p3,p4] #[z1,Z,Y,W];by_cases g:p1=z1/\p2=Z/\p3=Y/\p4=W
    ·rw[decide_eq_true g] at N;have d6:=qhw g;clear g;go_upto_region 6 with(fail);go_quiet (fail);go_wp2;go_roundw
     case rel=>
      refine⟨k+1,by simp,by omega,λi T=>?_,HG.t (qi _ _ _)⟩;by_cases e:i=k
      ·obtain⟨rfl,rfl,rfl,rfl⟩:=d6.out;rw[e,E1,E2]
      ·exact S i (by omega)
     case measure=>simp[qj7];omega
    ·rw[decide_eq_false g] at N;have x:=qhw (show decide (a=b)=false by
      rw[decide_eq_false_iff_not];intro e;have R:=E1.out;rw[e,E2] at R;exact g (by cases R;exact⟨rfl,rfl,rfl,rfl⟩))
     clear g;go_upto_region 6 with(fail);go_quiet (fail);go_wp2;go_ret;exact⟨by rw[x];rfl,n.t (HG.t (qi _ _ _))⟩
   ·obtain rfl:k=a.length:=by omega
    have x:=qhw (show decide (a=b)=true by
     rw[decide_eq_true_eq];refine qmx λi=>?_;by_cases T:i<a.length
     ·exact S i T
     ·rw[qjd (by omega),qjd (by have:=HL.out;omega)])
    clear z;go_wp2;go_ret;exact⟨by rw[x];rfl,n.t HG⟩
 ·have x:=qhw (show decide (a=b)=false by
   rw[decide_eq_false_iff_not];intro e;exact d (by rw[e]))
  have s:((a.length:Int) != (b.length:Int))=true:=by simp;omega
  clear d;go_enter Tp.x32,qrr;go_upto_region 1 with(fail);rw[<- HX,show(w.alloc (.cells #[.slice ba a.length ca,j] 24)).alloc (.cells #[.slice bb b.length cb,j] 24)=w1 from HW.symm];go_wp2;go_ret;exact⟨by rw[x];rfl,n⟩
def zC(a:List Par):List (Int × Int):=a.map λp=>(p.mn,p.mx)
def yf(lo hi:Nat)(M:qhC)(a:List Par)(i:Int)(w:qhy)(hY:q5v lo hi w M a i)(hl:a.length<=1000) :qiw Ya 89 #[M] w λe y=>∃v,e=.returned v/\w.gb y none/\qG w.heap.size y.heap.size y v (zC a):=by
 have⟨i0,F,D,C,B⟩:=qk1 Tp.info26p;obtain⟨pv,rfl,S⟩:=hY;obtain⟨Z,Y,rfl,b9,R⟩:=S.cell;have⟨A,x,T,l,q,r⟩:=qT w (.cells #[.slice Z a.length Y,i] 24);have⟨G,HA,g,HC⟩:=zI l T q R;have q0:=q8 r (o:=0) rfl;clear S R l T q r;go_enter Tp.x89,Tryz.ntmps89;go_upto_region 3 with(fail);rw[<- HA,<- G];go_wp2;go_loopw [3,4] (λov z wr=>∃k:Nat,z=.int .i64 k/\k<=a.length/\x.gb wr none/\wr.ownsRow x.heap.size 26 2 ov k (yz ((zC a).take k))) (λ_ z _=>(a.length - qj7 z).toNat)
 case atStart=>exact⟨0,rfl,by omega,qi2 _ _,by simpa[yz] using qjE _ _ _ _⟩
 case round=>
  obtain⟨k,rfl,hk,h,u⟩:=hrel;obtain⟨oa,om,oc,rfl⟩:=zi u;have⟨X,I⟩:=qF h u;have c3:=h.size;have a6:=h.cl q0;by_cases d:k<a.length
  ·obtain⟨YB,yo,rfl,-,-,-,U⟩:=HC.out (by intro e;rw[e] at d;simp at d);obtain⟨p,P,O,N,-,-⟩:=U k d;have f:=g.out.t h;have x1:=f.cl O;have x2:=f.cl N;have HS:=qhw (show yz ((zC a).take (k+1))=yz ((zC a).take k)++[.int .i64 p.mn,.int .i64 p.mx] by
    have:(zC a)[k]?=some (p.mn,p.mx):=by unfold zC;rw[qjA,P];rfl
    rw[qja,this];exact q0f _ _)
   have Q:(k:Int)<(a.length:Int):=by omega
   clear U P O N f h u;go_wp2_with (at_builtin;(refine ql8 _ rfl _ _ 48 rfl x.heap.size 26 i0 _ 2 16 Tp.und48 F D C B rfl (by decide) (.slice oa om oc) k _ rfl (I.alloc _) ⟨wr.heap.size,0,none⟩ 1 1 [.int .i64 p.mn,.int .i64 p.mx] rfl rfl (qjh (cs:=#[p.mn,p.mx]) (t:=26) (fr:=(0,0)) (qhH wr _)) (by simp[qjF]) (by unfold qlc;omega) (by omega) (by simp;omega) ?_);intro v' w7 b c _;obtain⟨g',W,rfl⟩:=qme b;have H:=qhw b;have L:=qhw c;clear b c);go_roundw
   case rel=>
    refine⟨k+1,by simp,by omega,(X.t (qhx _ _ none)).andThen L (λj e=>.inl (I.lt j e).1),?_⟩;rw[HS];exact H
   case measure=>simp[qj7];omega
  ·obtain rfl:k=a.length:=by omega
   have n:(zC a).length=a.length:=by simp[zC]
   have s:=qhw n;clear h u n;go_wp2;go_ret;have V:=I.out;rw[show(zC a).take a.length=zC a from qlx (by rw[s];exact qhz _)] at V;exact⟨_,rfl,g.t X,(qG.own V (by rw[s];omega)).mono g.size (qhz _)⟩
def q2s:∀(t:List Int),(∀x∈t,0<=x/\x<=1000)->0<=tot t/\tot t<=1000*t.length
 | [],_=>by simp[tot]
 | a::t,h=>by
  have d:=q2s t λx b=>h x (by simp[b]);have c:=h a (by simp);simp only[tot,qi3];omega
def q25(la ha lb hb:Nat)(lv bv:qhC)(l:List Int)(bs:List (Int × Int))(d gx:Nat->Int)(p:Nat)(w:qhy)(hI:qR la ha w lv l)(hB:qG lb hb w bv bs)(hg:∀x∈l,0<=x/\bs[x.toNat]?=some (d x.toNat,gx x.toNat))(O:∀i,0<=d i/\d i<=1000)(N:∀i,0<=gx i/\gx i<=1000)(hl:l.length<=1000)(hp:p<l.length) :qiw Ya 105 #[lv,bv,p] w λe w'=>e=.returned (.agg #[(loadAt d l p),(loadAt gx l p)])/\w.gb w' none:=by
 obtain⟨b1,c1,rfl,-,h1⟩:=hI.cell;obtain⟨b2,c2,rfl,m9,h2⟩:=hB.cell;obtain⟨A,w1,hA,n,R,T,S,-⟩:=zj w (.cells #[.int .i64 0,.int .i64 0] 26) (.cells #[.int .i64 0,.int .i64 0] 26);have⟨HW,HA,b9,c8,c3,H1,H2,b8⟩:=qca n hA R T S h1 h2 hg;have⟨X,W⟩:=qF O N;have m5:IntKind.i64.wrap ((p:Int)+1)=(p:Int)+1:=qiv _ (by omega);clear hI hB h1 h2 n hA R T S hg O N;obtain⟨b,s⟩:∃b,b=l.drop (p+1):=⟨_,rfl⟩;have F:=qhw s;have M:b.length=l.length - (p+1):=by rw[s];simp
 have n6:=qhw M;have e9:b.length+(p+1)<=l.length:=by omega
 have e8:l.length<=b.length+(p+1):=by omega
 clear s M;go_enter Tp.x105,Tryz.ntmps105;go_upto_region 3 with(fail);rw[<- HA,<- HW];go_wp2;go_loopw [8] (λiv wr=>∃k:Nat,iv=.int .i64 ((p:Int)+1+k)/\k<=b.length/\w.gb wr none/\wr.heap[A]?=some (.cells #[.int .i64 0,.int .i64 0] 26 (0,0))/\wr.heap[A+1]?=some (.cells #[.int .i64 (tot ((b.take k).map λx=>d x.toNat)),.int .i64 (tot ((b.take k).map λx=>gx x.toNat))] 26 (0,0))) (λiv _=>(l.length - qj7 iv).toNat)
 case atStart=>exact⟨0,by simp,by omega,b9,c8,by simpa[tot] using c3.out⟩
 case round=>
  obtain⟨k,rfl,hk,G,c,a⟩:=hrel;have⟨HG,Y,f⟩:=qY G c a;by_cases a9:k<b.length
  ·obtain⟨x,Z⟩:∃x,b[k]?=some x:=⟨_,qhG a9⟩;have h:l[p+1+k]?=some x:=by rw[<- Z,F,qmn]
   have⟨m3,g⟩:=b8.out x (qih h);obtain⟨m,rfl⟩:∃m:Nat,x=m:=⟨x.toNat,by omega⟩;simp only[Int.toNat_natCast] at g;have r:=(qic.1 g).1;obtain⟨B,o,rfl,-,-,-,h4⟩:=H1.out (by intro e;rw[e] at hp;simp at hp);have d0:=G.cl (h4 (p+1+k) (by omega));rw[h] at d0;simp only[qi0] at d0;obtain⟨C,o2,rfl,-,-,-,h5⟩:=H2.out (by intro e;rw[e] at r;simp at r);have⟨q,hq,I,H⟩:=h5 m r;rw[g] at hq;cases hq;have y1:=G.cl I;have y2:=G.cl H;have Q:=q2s ((b.take k).map λx=>d x.toNat) (by simp only[qmc];rintro z ⟨y,-,rfl⟩;exact X _);have P:=q2s ((b.take k).map λx=>gx x.toNat) (by simp only[qmc];rintro z ⟨y,-,rfl⟩;exact W _);simp only[qlB,qkC] at Q P;have a8:=X.out m;have a7:=W.out m;have D:=qhw (show tot ((b.take (k+1)).map λx=>d x.toNat)=tot ((b.take k).map λx=>d x.toNat)+d m by rw[qja,Z];simp[q3G]);have u:=qhw (show tot ((b.take (k+1)).map λx=>gx x.toNat)=tot ((b.take k).map λx=>gx x.toNat)+gx m by rw[qja,Z];simp[q3G]);generalize tot ((b.take k).map λx=>d x.toNat)=T1 at a f Q D;generalize tot ((b.take k).map λx=>gx x.toNat)=T2 at a f P u;generalize d m=m1 at y1 a8 D;generalize gx m=m2 at y2 a7 u;have n:IntKind.i64.wrap (T1+m1)=T1+m1:=qiv _ (by omega);have m4:IntKind.i64.wrap (T2+m2)=T2+m2:=qiv _ (by omega);have b0:(p:Int)+1+(k:Int)<(l.length:Int):=by omega
   have m8:(0:Int)<=(p:Int)+1+(k:Int):=by omega
   have m7:((p:Int)+1+(k:Int)).toNat=p+1+k:=by omega
   have m6:(m:Int)<(bs.length:Int):=by omega
   have z0:=q8 a (o:=0) rfl;have z1:=q8 a (o:=1) rfl;have t0:=qj a (o:=0);have t1:=qj a (o:=1);clear G c a h4 h5 Z h g I H;go_upto_region 5 with(fail);go_still_tail 23,(by kernel_rfl);change wpList _ _ _ _ _ wr.drew;have k8:wr.drew.cell? (A+1:Nat)=_:=z0;have k7:wr.drew.cell? ⟨A+1,1,none⟩=_:=z1;have l6:wr.drew.frozen? ⟨A+1,0,none⟩=false:=t0;have l5:wr.drew.frozen? ⟨A+1,1,none⟩=false:=t1;go_wp2;go_roundw
   case rel=>
    have L:=((qf wr.drew (A+1) 0 (.int .i64 (T1+m1))).t (qf _ (A+1) 1 (.int .i64 (T2+m2))));refine⟨k+1,by simp;omega,by omega,(HG.t (q9 wr none)).andThen L (by rintro j e;cases e;exact .inl (by have:=HA.out;omega)),bk L (show wr.drew.heap[A]?=_ from Y),?_⟩;rw[D,u];exact qg (o:=1) (v:=.int .i64 (T2+m2)) (qg (o:=0) (v:=.int .i64 (T1+m1)) (show wr.drew.heap[A+1]?=_ from f))
   case measure=>simp[qj7];omega
  ·obtain rfl:k=b.length:=by omega
   rw[qjt] at a f;have V:=qhw (show tot (b.map λx=>d x.toNat)=loadAt d l p by rw[F];rfl);have U:=qhw (show tot (b.map λx=>gx x.toNat)=loadAt gx l p by rw[F];rfl);generalize tot (b.map λx=>d x.toNat)=T1 at a f V;generalize tot (b.map λx=>gx x.toNat)=T2 at a f U;have b0:¬ (p:Int)+1+(b.length:Int)<(l.length:Int):=by omega
   have z0:=q8 a (o:=0) rfl;have z1:=q8 a (o:=1) rfl;have y0:=q8 c (o:=0) rfl;have y1:=q8 c (o:=1) rfl;have t0:=qj c (o:=0);have t1:=qj c (o:=1);clear G c a;go_wp2;have hz:=qg (o:=1) (v:=.int .i64 T2) (qg (o:=0) (v:=.int .i64 T1) Y);have b6:=HG.out.andThen (row':=some A) ((qf wr A 0 (.int .i64 T1)).t (qf _ A 1 (.int .i64 T2))) (by rintro j e;cases e;exact .inl (by have:=HA.out;omega));exact qjw (v:=.agg #[T1,T2]) (by simp[qkh,Tryz.results105,go_sem,qiA,hz]) rfl ⟨by rw[V,U],b6⟩
end
end Go.Proofs.YtidgnkmjgioapaaGreat
