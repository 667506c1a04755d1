/-
  Part 5 of the proof. gladstonelaw04.PileMends answers true for every yard, parcel, pile, number and list of numbers that the statement takes, and leaves its arguments as they were. No conditions.
-/
import Derived.Test.YtidgnkmjgioapaaGreatJ1
import Derived.Conc.AtomicLaws2
import Derived.StillTailTactics
set_option maxRecDepth 100000
set_option maxHeartbeats 8000000
set_option linter.all false
open And renaming intro->NY
open Array renaming eq_empty_of_size_eq_zero->Tl,getD_eq_getD_getElem?->Pv,getElem?_append->Rx,getElem?_append_left->Ua,getElem?_eq_getElem->Om,getElem?_eq_some_iff->Nz,getElem?_push->Sr,getElem?_setIfInBounds->OW,getElem?_setIfInBounds_ne->Po,getElem_append->Xj,mem_append->Rm,mem_of_getElem?->PR,range->Se,replicate->OY,replicate_succ->Oj,replicate_zero->Ol
open Bool renaming and_eq_true->Of,and_eq_true_iff->Xi,false_eq_true->OJ,not_eq_true'->QM,not_false->TT,true_and->TK,false->NC,true->NB
open Classical renaming byContradiction->OK
open Go renaming Act->QF,Addr->OX,Calls->Oz,Code->Qs,Deferred->Qa,Event->Pz,Exit->Ux,Frame->NS,FuncId->Pl,Goroutine->NF,Item->Si,Oper->PE,Operand->OQ,Program->NR,Question->Qe,TypeDesc->Vm,TypeId->NZ,TypeInfo->Sd,Value->Ny,World->Nt,bodyPost_ret->Qi,bytes->UQ,callDeferred->Qd,doReturn->Qg,execOp->QN,goexitEntry->Xh,grownCap->Sm,heap_alloc_new->NL,heap_setCell_other->RJ,heap_setCell_same->VW,info_parts->PM,maxLen->Rh,results->Qo,results_tmp->UE,run_underlying->TZ,seen->Wa,sizeOf->UI,stepG->Pj,storeCells->Us,tryRecover->Ou,typeInfo->RV,undef->NG,unwind->SS,wpList->Vb,wpList_append_own->Rv,yielded->PH
open Go.Builtin renaming append_->Rj,firstCells->Uu,lenOf->VX,min2->XZ,min_->VD,zeroCells->Qu
open Go.Calls renaming quiet_of_same->Qc
open Go.Conc renaming base->Oq,baseD->PD,dcall->Zx,Goes->TO,QuitsD->VK,events_results_tmp->Uy,run_call_body->TI,stepG_add_atomic->SF,stepG_block->UD,stepG_load_atomic->SY,stepG_region_end->NI,stepG_seq->Ob,stepG_skip->Px
open Go.Conc.Goes renaming stop->Qh
open Go.ConcN renaming WgLive->QO,upd->Tv
open Go.ConcR renaming DC0->UN
open Go.Frame renaming catches->Wc,enter->OT,finish_at->Qw
open Go.GStep renaming after->Pm
open Go.IntKind renaming wrap_i64->Ui
open Go.IntWalk renaming i64_in->Ov
open Go.Lib renaming hid->Np
open Go.MemAct renaming ofEvent->PG,touch?->Qr
open Go.Proofs.Tryz renaming f136->Vf,f139->SJ,f141->Vh,f142->UG,f143->VG,f82->Xe,f85->RX,func136->ZS,func139->WI,func142->UU,func143->ZP,func180->ZR,func182->ZQ,ntmps106->XJ,ntmps111->Un,ntmps28->WJ,ntmps31->WC,ntmps32->Yr,ntmps50->ZU,ntmps53->ZT,prog->NV,underlying3->SI
open Go.Region renaming binds->Pe,ready->Oe,wanted->Oy
open Go.Result renaming andThen_ok->PC
open Go.RowKit renaming Hid->Wn,intOf->OP
open Go.Sem renaming run_bind->PF,run_pure->SZ
open Go.Value renaming cells->Vr,int->Og,oneCell'->PT,ownBlock->OG,slice->OS
open Go.World renaming alloc->j8,cell?->OA,frozen?->RN,grownBy_alloc->Nr,news_of_block->Pt,ownsRow_nil->PX,setCell->Qq,size_alloc->NW
open Go.World.grownBy renaming andThen->Qy,refl->NN
open List renaming all_eq_true->OF,append_assoc->Qv,cons_append->Oa,count_cons->WU,drop_succ_cons->Oi,drop_zero->OH,eq_nil_of_length_eq_zero->OZ,ext_getElem?->RO,filter_append->SP,find?_eq_none->Sa,flatMap_cons->Qx,foldl_cons->PN,getElem?_drop->RZ,getElem?_eq_getElem->ND,getElem?_eq_none->OO,getElem?_eq_some_iff->NT,getElem?_map->Pa,getElem?_range->Ra,getElem?_take->Ty,getElem?_take_of_lt->PI,getElem_mem->RL,length_append->Pi,length_cons->NQ,length_erase_of_mem->Ti,length_filter_le->PS,length_map->Ql,length_nil->NU,length_pos_iff->Ru,length_take->Qt,map_append->Qm,map_cons->Qj,map_nil->Sx,map_toArray->SH,mem_append->Qb,mem_cons->ON,mem_flatMap->Sc,mem_iff_getElem?->TN,mem_map->Qp,mem_of_getElem?->Od,mem_range->Py,mem_singleton->Pk,mem_toArray->Ro,nil_append->On,not_mem_nil->PY,pairwise_iff_getElem->Rq,push_toArray->Ow,range->Oo,size_toArray->Ox,take_add_one->OR,take_length->Ps,take_of_length_le->UP
open List.range renaming loop->Pf
open Nat renaming le_of_eq->Sv,le_refl->Nv,le_trans->NM,lt_of_lt_of_le->NX,lt_or_ge->PP,mul_le_mul->UT,mul_le_mul_left->Vy,reduceAdd->Oh,reduceSub->OV,zero_add->Oc,zero_le->OE
open Option renaming bind_eq_some_iff->Pg,getD_some->NK,map_some->Pp,mem_toList->Yq,none->Ns,some->Nq
open Option.some renaming injEq->OM
open _root_ renaming Array->NJ,Bool->OI,False->RI,Int->NH,List->Nu,Nat->NA,Option->NO,True->TL
namespace Go.Proofs.YtidgnkmjgioapaaGreat
section
open Go Go.RowKit Go.Conc Go.ConcN Go.ConcN.Gen Go.Conc.Lib Go.ConcR.Gen Go.Co Go.Sim
noncomputable def bot:NS:={ (default:NS) with fn:=Tryz.prog.funcs.size,mode:=.panicking [Xh] }
def dn(a:NA):Nu Qa:=[Zx 140 #[pt a]]
section
variable{Fz:Bs}{K:Nt->Nt->Prop}{Stop:Bs->NF->Nt->Prop}{S:Bs}(hK:∀a b c,K a b->K b c->K a c)
include hK
theorem FM[JunkSet]{b:NJ Ny}(g:b.size=60){D:Nu Qa}{a:Nu NS}{f A i N:NA}{p:NO OX}{o:NA}{w:Nt}(n:b[2]?.getD NG=pt A)(hA:∀w₁,RC Fz K S w w₁->w₁.cell? A=Nq (.slice p N o))(j:Fz A)(h:A<w.heap.size)(hi:N<=i)(hN:i<=1000000)(d:∀b c,az NV Fz K Stop S (G { (PD 139).at ⟨b,D⟩ c with mode:=.returning } a) w) :az NV Fz K Stop S (G ((Oq 141).at ⟨#[pt f,.int .i64 1,NG,NG,.int .i64 0,pt f,pt f,pt f,.int .i64 1,.int .i64 (i+1)],[]⟩ [.inRegion mM [5],.code .ret]) (f1 b D::a)) w:=by
 obtain⟨y0,y1,y2,y3,y4,y5,y6,y7,y8,y9,e9,e8,e7,e6,e5,e4,d9,d8,d7,d6,d5,c9,c8,c3,b9,b8,b7,b6,b0,a9,a8,a7,a6,Z,Y,X,W,V,U,T,R,Q,P,O,M,L,I,H,F,C,B,z,y,x,v,u,t,s,r,q,rfl⟩:=rG b g;simp only[f1,Jj,FW,mM,wLB,dZ,dJ,SJ,Vh,NK,sqA,sqB,inn,aY];simp at n;subst n;simp only[pt];have g5:IntKind.i64.wrap (i:NH)=i:=Ov _ (by omega);have g6:decide ((N:NH)<=(i:NH))=NB:=by simp;omega
 have k:decide (N<=i)=NB:=by simp;omega
 refine az.value hK (.int .i64 (i+1)) rfl rfl (by k_ne) (λ_=>by go_simp) (λ_=>by simp[go_sem]) ?_;walk_nrm;refine az.region_end hK ?_;refine az.retS hK ?_;refine az.leave1 hK rfl rfl Tryz.func141 rfl ?_;walk_nrm;refine az.value hK (.int .i64 i) rfl rfl (by k_ne) (λ_=>by go_simp) (λ_=>by simp[go_sem]) ?_;walk_nrm;refine az.value hK (.int .i64 i) rfl rfl (by k_ne) (λ_=>by go_simp) (λ_=>by simp[go_sem]) ?_;walk_nrm;refine az.region_end hK ?_;refine az.seq hK ?_;refine az.seq hK ?_;refine az.region hK ?_;simp only[Ox,NQ,NU,Oh,Oc,Oo,Pf];refine az.value hK (.int .i64 i) rfl rfl (by k_ne) (λ_=>by go_simp) (λ_=>by simp[go_sem]) ?_;walk_nrm;refine az.load hK (.slice p N o) rfl rfl (by k_ne) (λw₁ h₁=>?_) ?_
 ·have hc:=hA w₁ h₁;refine⟨by go_simp,λe l=>?_⟩;simp[go_sem,hc] at l;rw[l];exact zk j (NX h h₁.size)
 walk_nrm;refine az.value hK (.int .i64 N) rfl rfl (by k_ne) (λ_=>by go_simp) (λ_=>by simp[go_sem]) ?_;walk_nrm;refine az.value hK (.bool NB) rfl rfl (by k_ne) (λ_=>by go_simp) (λ_=>by simp[go_sem]) ?_;walk_nrm;refine az.value hK (.bool NB) rfl rfl (by k_ne) (λ_=>by go_simp) (λ_=>by simp[go_sem]) ?_;walk_nrm;refine az.unwanted hK rfl rfl ?_;walk_nrm;refine az.value hK (.bool NB) rfl rfl (by k_ne) (λ_=>by go_simp) (λ_=>by simp[go_sem]) ?_;walk_nrm;refine az.region_end hK ?_;refine az.cond hK NB rfl ?_;simp only[if_true];refine az.retS hK ?_;exact d _ _
theorem FK{b:NJ Ny}(g:b.size=60){D:Nu Qa}{a:Nu NS}{f:NA}{w:Nt}(e:b[18]?.getD NG=.bool NC)(d:∀b c,az NV Fz K Stop S (G { (PD 139).at ⟨b,D⟩ c with mode:=.returning } a) w) :az NV Fz K Stop S (G ((Oq 142).at ⟨#[pt f,NG,.bool NC,pt f,pt f,pt f,.int .u32 1,NG],[]⟩ [.inRegion mK [4,5],.code .ret]) (f2 b D::a)) w:=by
 obtain⟨y0,y1,y2,y3,y4,y5,y6,y7,y8,y9,d5,c9,c8,c3,b9,b8,b7,b6,b0,a9,a8,a7,a6,Z,Y,X,W,V,U,T,R,Q,P,O,N,M,L,I,H,F,C,B,A,z,y,x,v,u,t,s,r,q,p,o,n,l,k,j,i,h,rfl⟩:=rG b g;simp only[f2,c20,wX,FW,mK,wLB,dZ,dJ,SJ,UG,NK,sqA,sqB,inn,aY];simp at e;subst e;simp only[pt];refine az.value hK (.bool NB) rfl rfl (by k_ne) (λ_=>by go_simp) (λ_=>by simp[go_sem]) ?_;walk_nrm;refine az.value hK (.bool NB) rfl rfl (by k_ne) (λ_=>by go_simp) (λ_=>by simp[go_sem]) ?_;walk_nrm;refine az.region_end hK ?_;refine az.retS hK ?_;refine az.leave1 hK rfl rfl UU rfl ?_;walk_nrm;refine az.value hK (.bool NB) rfl rfl (by k_ne) (λ_=>by go_simp) (λ_=>by simp[go_sem]) ?_;walk_nrm;refine az.region_end hK ?_;refine az.cond hK NB rfl ?_;simp only[if_true];refine az.retS hK ?_;exact d _ _
theorem FL{c:NJ Ny}(f:c.size=60){D:Nu Qa}{b:Nu NS}{e:NA}{w:Nt}(d:c[18]?.getD NG=.bool NC)(a:az NV Fz K Stop S (G ((PD 139).at ⟨(c.setIfInBounds 19 (.bool NC)).setIfInBounds 20 (.bool NC),D⟩ (.code wX::.inBlock 1::dJ)) b) w) :az NV Fz K Stop S (G ((Oq 142).at ⟨#[pt e,NG,.bool NC,pt e,pt e,pt e,.int .u32 0,NG],[]⟩ [.inRegion mK [4,5],.code .ret]) (f2 c D::b)) w:=by
 obtain⟨y0,y1,y2,y3,y4,y5,y6,y7,y8,y9,c9,c8,c3,b9,b8,b7,b6,b0,a9,a8,a7,a6,Z,Y,X,W,V,U,T,R,Q,P,O,N,M,L,I,H,F,C,B,A,z,y,x,v,u,t,s,r,q,p,o,n,l,k,j,i,h,g,rfl⟩:=rG c f;simp only[f2,c20,wX,FW,mK,wLB,dZ,dJ,SJ,UG,NK,sqA,sqB,inn,aY] at a ⊢;simp at d;subst d;simp only[pt];simp only[List.setIfInBounds_toArray,List.set_cons_succ,List.set_cons_zero] at a;refine az.value hK (.bool NC) rfl rfl (by k_ne) (λ_=>by go_simp) (λ_=>by simp[go_sem]) ?_;walk_nrm;refine az.value hK (.bool NC) rfl rfl (by k_ne) (λ_=>by go_simp) (λ_=>by simp[go_sem]) ?_;walk_nrm;refine az.region_end hK ?_;refine az.retS hK ?_;refine az.leave1 hK rfl rfl UU rfl ?_;walk_nrm;refine az.value hK (.bool NC) rfl rfl (by k_ne) (λ_=>by go_simp) (λ_=>by simp[go_sem]) ?_;walk_nrm;refine az.region_end hK ?_;refine az.cond hK NC rfl ?_;simp only[if_false,OJ];refine az.skip hK ?_;exact a
end
end
section
open Go Go.RowKit Go.Conc Go.ConcN Go.ConcN.Gen Go.Conc.Lib Go.ConcR.Gen Go.Co Go.Sim
noncomputable def xh:Qs:=sqB (sqB (sqB (sqB (sqB dZ))))
noncomputable def Aw:NJ PE:=aY (match xh with | .cond _ r _=>r | c=>c)
noncomputable def f10(a:NJ Ny)(D:Nu Qa):NS:=(PD 139).at ⟨a,D⟩ (.inRegion Aw [0]::.inBlock 1::dJ)
structure I14(Fd:NA)(l:NJ OI)(a:QF):Prop where
 c1:l[1]?.getD NC=NB->l[0]?.getD NC=NB
 c2:l[2]?.getD NC=NB->l[1]?.getD NC=NB
 c4:l[4]?.getD NC=NB->l[3]?.getD NC=NB
 c5:l[5]?.getD NC=NC
 ac:∃T4 T5 T6 T7 T8,a=⟨#[.pointer (Nq Fd),.bool NB,NG,NG,T4,T5,T6,T7,T8,NG],[]⟩/\(l[0]?.getD NC=NB->T4=.pointer (Nq Fd))/\(l[1]?.getD NC=NB->T5=.pointer (Nq Fd))/\(l[2]?.getD NC=NB->T6=.pointer (Nq Fd))/\(l[3]?.getD NC=NB->T7=.bool NB)/\(l[4]?.getD NC=NB->T8=.int .u32 1)
section
variable{Fz:Bs}{K:Nt->Nt->Prop}{Stop:Bs->NF->Nt->Prop}{S:Bs}(hK:∀a b c,K a b->K b c->K a c)
include hK
theorem IV{c:NJ Ny}(e:c.size=60){D:Nu Qa}{a:Nu NS}{w:Nt}(d:c[58]?.getD NG=.bool NC)(b:az NV Fz K Stop S (G ((PD 139).at ⟨c,D⟩ (.code wLB::dJ)) a) w) :az NV Fz K Stop S (G ((PD 139).at ⟨c,D⟩ (.code xh::.inBlock 1::dJ)) a) w:=by
 obtain⟨y0,y1,y2,y3,y4,y5,y6,y7,y8,y9,c8,c3,b9,b8,b7,b6,b0,a9,a8,a7,a6,Z,Y,X,W,V,U,T,R,Q,P,O,N,M,L,I,H,F,C,B,A,z,y,x,v,u,t,s,r,q,p,o,n,l,k,j,i,h,g,f,rfl⟩:=rG c e;simp only[xh,wLB,dZ,dJ,SJ,NK,sqA,sqB,inn] at b ⊢;simp at d;subst d;refine az.cond hK NC rfl ?_;simp only[if_false,OJ];refine az.skip hK ?_;refine az.inBlock hK ?_;refine az.inLoop hK ?_;exact b
theorem IX{d:NJ Ny}{D:Nu Qa}{a:Nu NS}{c:NA}{w:Nt}(b:az NV Fz K Stop S (G ((PD 139).at ⟨d.setIfInBounds 59 (.tuple #[]),D⟩ (.code wLB::dJ)) a) w) :az NV Fz K Stop S (G ((Oq 143).at ⟨#[pt c,.bool NB,NG,NG,pt c,pt c,pt c,.bool NB,.int .u32 1,.tuple #[]],[]⟩ [.inRegion qa []]) (f10 d D::a)) w:=by
 simp only[f10,Aw,qa,xh,wLB,dZ,dJ,SJ,VG,NK,sqA,sqB,inn,aY] at b ⊢;refine az.region_end hK ?_;refine az.endS hK ?_;refine az.leave0 hK rfl rfl ZP rfl ?_;refine az.region_end hK ?_;refine az.inBlock hK ?_;refine az.inLoop hK ?_;exact b
theorem IU(M:∀w n,K w { w with drawn:=n }){tm:NJ Ny}(hsz:tm.size=60){D:Nu Qa}{real:Nu NS}{Fd:NA}{w:Nt}(h3:tm[3]?.getD NG=pt Fd)(h58:tm[58]?.getD NG=.bool NB)(hstop:∀w₁,RC Fz K S w w₁->Stop S (G ((Oq 143).at ⟨#[pt Fd,.bool NB,NG,NG,pt Fd,pt Fd,pt Fd,.bool NB,.int .u32 1,NG],[]⟩ [.inRegion qa [5]]) (f10 tm D::real)) w₁) :az NV Fz K Stop S (G ((PD 139).at ⟨tm,D⟩ (.code xh::.inBlock 1::dJ)) real) w:=by
 obtain⟨y0,y1,y2,y3,y4,y5,y6,y7,y8,y9,m6,m5,m4,m3,l9,l8,l7,l6,l5,l4,k9,k8,k7,k6,k5,h9,h8,g9,g8,g7,g6,g5,e9,e8,e7,e6,e5,e4,d9,d8,d7,d6,d5,c9,c8,c3,b9,b8,b7,b6,b0,a9,a8,a7,a6,Z,Y,X,W,V,rfl⟩:=rG tm hsz;simp only[f10,Aw,qa,xh,wLB,dZ,dJ,SJ,VG,NK,sqA,sqB,inn,aY] at hstop ⊢;simp at h3 h58;subst h3 h58;simp only[pt] at hstop ⊢;refine az.cond hK NB rfl ?_;simp only[if_true];refine az.region hK ?_;simp only[Ox,NQ,NU,Oh,Oc,Oo,Pf];refine az.enter hK rfl rfl (by k_ne) rfl ZP (by kernel_rfl) rfl ?_
 walk_nrmf VG
 refine az.region_inv hK (by kernel_rfl) M (I14 Fd) ?_ ?_ ?_
 ·exact⟨by simp,by simp,by simp,by simp,NG,NG,NG,NG,NG,rfl,by simp,by simp,by simp,by simp,by simp⟩
 ·rintro l a i g ⟨A,z,y,p,I,H,C,F,B,rfl,u,t,s,r,q⟩ v x k d;have o:=(bZ v).1;have n6:l.size=6:=g;have c:∀i j,i<6->(l.setIfInBounds i NB)[j]?.getD NC=if i=j then NB else l[j]?.getD NC:=λi j h=>lQ l i j (by omega);have n4:=nK v;have o:i=0\/i=1\/i=2\/i=3\/i=4\/i=5:=by
   have:i<6:=o;omega
  rcases o with rfl | rfl | rfl | rfl | rfl | rfl
  ·refine az.value hK (.pointer (Nq Fd)) rfl rfl (by k_ne) (λ_=>by go_simp) (λ_=>by simp[go_sem]) ?_;walk_nrm;exact d _ ⟨by simp[c],by simpa[c] using λh=>(z h),by simpa[c] using y,by simpa[c] using p,_,H,C,F,B,rfl,λ_=>rfl,by simpa[c] using t,by simpa[c] using s,by simpa[c] using r,by simpa[c] using q⟩
  ·have b:=bX v rfl;simp[Pe] at b;obtain rfl:=u (by simp[b]);refine az.value hK (.pointer (Nq Fd)) rfl rfl (by k_ne) (λ_=>by go_simp) (λ_=>by simp[go_sem]) ?_;walk_nrm;exact d _ ⟨by simp[c,b],by simp[c],by simpa[c] using y,by simpa[c] using p,_,_,C,F,B,rfl,λ_=>rfl,λ_=>rfl,by simpa[c] using s,by simpa[c] using r,by simpa[c] using q⟩
  ·have b:=bX v rfl;simp[Pe] at b;obtain rfl:=t (by simp[b]);refine az.value hK (.pointer (Nq Fd)) rfl rfl (by k_ne) (λ_=>by go_simp) (λ_=>by simp[go_sem]) ?_;walk_nrm;exact d _ ⟨by simpa[c] using A,by simp[c,b],by simpa[c] using y,by simpa[c] using p,I,_,_,F,B,rfl,by simpa[c] using u,λ_=>rfl,λ_=>rfl,by simpa[c] using r,by simpa[c] using q⟩
  ·refine az.value hK (.bool NB) rfl rfl (by k_ne) (λ_=>by go_simp) (λ_=>by simp[go_sem]) ?_;walk_nrm;exact d _ ⟨by simpa[c] using A,by simpa[c] using z,by simp[c],by simpa[c] using p,I,H,C,_,B,rfl,by simpa[c] using u,by simpa[c] using t,by simpa[c] using s,λ_=>rfl,by simpa[c] using q⟩
  ·have b:=bX v rfl;simp[Pe] at b;obtain rfl:=r (by simp[b]);refine az.enter hK rfl rfl (by k_ne) rfl ZQ (by kernel_rfl) rfl ?_
   walk_nrmf Tryz.f182
   refine az.seq hK ?_;refine az.region hK ?_;simp only[Ox,NQ,NU,Oh,Oc,Oo,Pf];refine az.value hK (.int .u32 0) rfl rfl (by k_ne) (λ_=>by go_simp) (λ_=>by simp[go_sem]) ?_;walk_nrm;refine az.region_end hK ?_;refine az.seq hK ?_;refine az.seq hK ?_;refine az.region hK ?_;simp only[Ox,NQ,NU,Oh,Oc,Oo,Pf];refine az.value hK (.bool NB) rfl rfl (by k_ne) (λ_=>by go_simp) (λ_=>by simp[go_sem]) ?_;walk_nrm;refine az.region_end hK ?_;refine az.cond hK NB rfl ?_;simp only[if_true];refine az.seq hK ?_;refine az.region hK ?_;simp only[Ox,NQ,NU,Oh,Oc,Oo,Pf];refine az.value hK (.int .u32 1) rfl rfl (by k_ne) (λ_=>by go_simp) (λ_=>by simp[go_sem]) ?_;walk_nrm;refine az.region_end hK ?_;refine az.retS hK ?_;refine az.leave1 hK rfl rfl ZQ rfl ?_;walk_nrm;exact d _ ⟨by simpa[c] using A,by simpa[c] using z,by simp[c,b],by simpa[c] using p,I,H,C,_,_,rfl,by simpa[c] using u,by simpa[c] using t,by simpa[c] using s,λ_=>rfl,λ_=>rfl⟩
  ·have b:=bX v rfl;simp[Pe] at b;have O:l[2]?.getD NC=NB:=by simp[b]
   have N:l[4]?.getD NC=NB:=by simp[b]
   have P:=z O;have U:=A P;have T:=y N;obtain rfl:=u U;obtain rfl:=t P;obtain rfl:=s O;obtain rfl:=r T;obtain rfl:=q N;have f:x=[]:=k (by
    simp only[Oe,List.filter_eq_nil_iff,Py,Of,QM,not_and];intro j hj R;exfalso;have n7:j<6:=hj;have L:j<(l.setIfInBounds 5 NB).size:=by simp;omega
    have e:(l.setIfInBounds 5 NB)[j]?.getD NC=NB:=by
     rw[c 5 j (by omega)];obtain rfl | rfl | rfl | rfl | rfl | rfl:j=0\/j=1\/j=2\/j=3\/j=4\/j=5:=by omega
     all_goals simp[U,P,O,T,N]
    simp only[Pv,Om L,NK] at R e;rw[R] at e;cases e)
   subst f;exact az.stop hstop
 ·rintro l a g ⟨A,z,y,p,I,H,C,F,B,rfl,u,t,s,r,q⟩ f;have q0:=cT f g (i:=0) rfl (by simp[Pe]);have q1:=cT f g (i:=1) rfl (by simp[Pe,q0]);have q2:=cT f g (i:=2) rfl (by simp[Pe,q1]);have q3:=cT f g (i:=3) rfl (by simp[Pe]);have q4:=cT f g (i:=4) rfl (by simp[Pe,q3]);have Q:=cT f g (i:=5) rfl (by simp[Pe,q2,q4]);rw[p] at Q;cases Q
end
end
section
open Go Go.RowKit Go.Conc Go.ConcN Go.ConcN.Gen Go.Conc.Lib Go.ConcR.Gen Go.Co Go.Sim
def dO(a b A c Y V B:NA):NJ Ny:=#[pt a,pt b,pt A,pt c,pt Y,pt V,pt B]
def tJ(a b A c Y V B:NA):Qa:={ target:=.fn (.func 139) (dO a b A c Y V B),args:=#[] }
def tm0(a b A c Y V B:NA):NJ Ny:=#[pt a,pt b,pt A,pt c,pt Y,pt V,pt B]++OY 53 NG
section
variable{Fz:Bs}{K:Nt->Nt->Prop}{Stop:Bs->NF->Nt->Prop}{S:Bs}(hK:∀a b c,K a b->K b c->K a c)
include hK
theorem Ao{b d A f Y V B:NA}{w:Nt}(a:az NV Fz K Stop S (G ((PD 139).at ⟨tm0 b d A f Y V B,dn b⟩ (.code wLB::dJ)) [bot]) w) :az NV Fz K Stop S (born NV (tJ b d A f Y V B)) w:=by
 have c:∀w,Pj NV NC (born NV (tJ b d A f Y V B)) w=.go (G ((PD 139).at ⟨tm0 b d A f Y V B,[]⟩ [.code (Tryz.f139.body.getD .skip)]) [bot]) w #[]:=by
  intro w;simp[born,tJ,dO,Pj,SS,Qd,invoke,callFunc,WI,SJ,Wa,Pm,G,OT,Frame.at,PD,bot,tm0];rfl
 refine az.pure hK rfl c ?_;simp only[wLB,dJ,SJ,NK,sqA,sqB,inn] at a ⊢;refine az.seq hK ?_;refine az.region hK ?_;simp only[Ox,NQ,NU,Oh,Oc,Oo,Pf];refine az.pure hK rfl (λw=>stepG_defer rfl rfl (by k_ne) rfl) ?_;refine az.region_end hK ?_;refine az.block hK ?_;refine az.loop hK ?_;have e:Act.put ⟨tm0 b d A f Y V B,[Zx 140 (Array.map (Act.eval ⟨tm0 b d A f Y V B,[]⟩) #[Operand.tmp 0])]⟩ Ns NG=⟨tm0 b d A f Y V B,dn b⟩:=by
  simp[Act.put,dn,Act.eval,tm0]
 rw[<- e] at a;exact a
end
end
section
open Go Go.RowKit Go.Conc Go.ConcN Go.ConcN.Gen Go.Conc.Lib Go.ConcR.Gen Go.Co Go.Sim
def Dh(T:NJ Ny)(a:Nu Si):VK NV 2 0 (G { (PD 139).at ⟨T,[]⟩ a with mode:=.returning } [bot]):=by
 refine QuitsD.ctl (g':=G bot []) rfl (λw=>?_) ?_
 ·simp[G,Pj,SS,Qg,Qo,Frame.at,PD,bot,WI,SJ,Wa,Pm,Xh];try rfl
 refine QuitsD.ctl (g':={ G bot [] with status:=.finished }) rfl (λw=>?_) ⟨rfl,rfl⟩;simp[G,Pj,SS,bot,Xh,Wc];rfl
section
variable{Fz:Bs}{K:Nt->Nt->Prop}{Stop:Bs->NF->Nt->Prop}{S:Bs}(hK:∀a b c,K a b->K b c->K a c)
include hK
theorem IW{Wg:NA}{w:Nt}(l:QO 166 Wg w)(j:∀w w₁,K w w₁->LR 166 Wg w w₁)(i:∀g w,LJ NV 166 Wg g w->Stop S g w)(e:NJ Ny)(d:Nu Si) :az NV Fz K Stop S (G { (PD 139).at ⟨e,dn Wg⟩ d with mode:=.returning } [bot]) w:=by
 refine az.pure hK rfl (λw=>stepG_unwind_enter (f:=140) (ds:=[]) rfl qG.f_done (nm_done link) rfl) ?_;have:=Go.Co.done (L:=link) (Wg:=Wg) (cs:=[bot]) (qt:=2) qG (c:={ (PD 139).at ⟨e,[]⟩ d with mode:=.returning }) rfl (Dh e d) w l;exact az.of_goes2 (λa b h=>j a b h.k) (λw=>LR.refl w) i this
end
end
section
open Go Go.Sim
def lst:Nu NA:=[3,4,5,6,7,8,9,10,11,12,13,14,15,16,17,18,19,20,21,22,23,24,25,26,27,28,29,30,31,32,33,34,35,36,37,38,39,40,41,42,43,44,45,46,47,48,49,50,51,52,53,54,55,56,57,58,59,60,61,62,63,64,65,66,67,68,69,70,71,72,73,74,75,76,77,78,79,80,81,82,83,84,85,86,87,88,89,90,91,92,93,94,95,96,97,98,99,100,101,102,103,104,105,106,107,108,109,110,111,112,113,114,115,116,117,118,119,120,121,122,123,124,125,126,127,128,129,130,131,132,133,134,135,136,137,145,146,147,148,149,150,151,152,153,154,155,156,157,158,159,160,161,162,163,164,165,182,188,189,190,191,192,193,194,195,196,197,198,199,200,206,207,208,209,210,211,212,213,214,215,216,217,218,219,220,221,222,223,224,241,242]
noncomputable def ls:Lets:=⟨λf=>lst.contains f,λn=>n == "gladstone/pile.holds",λb a=>biB Ya b a⟩
def Jn{f:NA}(h:ls.f f=NB):f∈lst:=by
 have:lst.contains f=NB:=h;simpa using this
def Lx:(lst.all λf=>Jz Ya NV ls f)=NB:=by kernel_rfl
def Lw:(lst.all λf=>Jz Ya Ya ls f)=NB:=by kernel_rfl
def zy:(lst.all λf=>Hx Ya ls f)=NB:=by kernel_rfl
def Kf(Q:NR)(s:Lets)(n:String)(t:NA):OI:=match Q.info? t with
 | none=>NB
 | some i=>match i.methods.find? (·.name == n) with
  | none=>NB
  | some m=>m.path.isEmpty && (match m.func with | some (f,b)=>s.f f && (b || (match Q.underlying t with | some (.pointer _)=>NC | _=>NB)) | none=>NC)
def yf{f:NZ->NO Sd}{d:Vm}{i:Sd}(h:Made.reckon f d=Nq i):i.methods=#[]:=by
 unfold Made.reckon at h;split at h
 ·obtain⟨j,-,h⟩:=Pg.1 h;split at h
  ·cases h
  ·split at h
   ·cases h
   ·obtain⟨x,-,h⟩:=Pg.1 h;cases h;rfl
  ·obtain⟨x,-,h⟩:=Pg.1 h;cases h;rfl
 ·obtain⟨j,-,h⟩:=Pg.1 h;obtain⟨x,-,h⟩:=Pg.1 h;cases h;rfl
 ·obtain⟨j,-,h⟩:=Pg.1 h;obtain⟨x,-,h⟩:=Pg.1 h;obtain⟨x,-,h⟩:=Pg.1 h;obtain⟨x,-,h⟩:=Pg.1 h;cases h;rfl
 ·obtain⟨j,-,h⟩:=Pg.1 h;obtain⟨x,-,h⟩:=Pg.1 h;cases h;rfl
 ·obtain⟨j,-,h⟩:=Pg.1 h;cases h;rfl
 ·obtain⟨j,-,h⟩:=Pg.1 h;obtain⟨x,-,h⟩:=Pg.1 h;cases h;rfl
 ·unfold Made.reckonStruct at h;obtain⟨r,-,h⟩:=Pg.1 h;split at h<;>(dsimp only at h;split at h<;>(cases h;rfl))
 ·cases h
def DR{P:NR}{t:NA}{i:Sd}(h:P.info? t=Nq i):t<P.types.size\/i.methods=#[]:=by
 by_cases b:t<P.types.size
 ·exact .inl b
 ·have a:Tables.info? P.toTables t=Nq i:=h;unfold Tables.info? at a;rw[if_neg b] at a;unfold Made.depth Made.infoAt at a;rw[if_neg b] at a;obtain⟨d,-,c⟩:=Pg.1 a;exact .inr (yf c)
def Mz:((Oo Ya.types.size).all (Kf Ya ls "gladstone/pile.holds"))=NB:=by kernel_rfl
def BN:∀n,ls.m n=NB->∀t i m,Ya.info? t=Nq i->i.methods.find? (·.name == n)=Nq m->m.path=#[]/\∃f b,m.func=Nq (f,b)/\ls.f f=NB/\∀e,Ya.underlying t=Nq (.pointer e)->b=NB:=by
 intro n k t i m d c;obtain rfl:n = "gladstone/pile.holds" := by simpa[ls] using k
 have j:t<Ya.types.size:=(DR d).resolve_right λe=>by rw[e] at c;cases c
 have h:=OF.1 Mz t (Py.2 j);unfold Kf at h;rw[d] at h;dsimp only at h;rw[c] at h;dsimp only at h;have⟨p,a⟩:=Xi.1 h;refine⟨by simpa using p,?_⟩;cases hm:m.func with
 | none=>rw[hm] at a;cases a
 | some q=>
  obtain⟨f,b⟩:=q;rw[hm] at a;dsimp only at a;have⟨o,g⟩:=Xi.1 a;refine⟨f,b,rfl,o,λe l=>?_⟩;rw[l] at g;simpa using g
def Nd:Ya.funcs[85]?≠Tryz.prog.funcs[85]?:=by
 intro h;have a:(Ya.funcs[85]?).map (λf=>f.body.isNone || (match f.body with | some (.exit _)=>NB | _=>NC))=Nq NB:=by kernel_rfl
 rw[h] at a;have b:(Tryz.prog.funcs[85]?).map (λf=>f.body.isNone || (match f.body with | some (.exit _)=>NB | _=>NC))=Nq NC:=by kernel_rfl
 rw[b] at a;cases a
def bG(f:NA)(h:f≠85):Ya.funcs[f]?=Tryz.prog.funcs[f]?:=by
 unfold Ya;dsimp only;rw[OW,if_neg (λe=>h e.symm)]
def Km(jk:NA->Prop):@Duo (JS Ya NV ls jk) Ya NV:=by
 refine Hn rfl (by kernel_rfl) (by kernel_rfl) (λb a h=>h) (λf h=>?_) (λf h c=>?_) BN
 ·exact OF.1 Lx f (Jn h)
 ·exact OF.1 zy f (Jn h)
def Kl(jk:NA->Prop):@Duo (JS Ya Ya ls jk) Ya Ya:=by
 refine Hn rfl (by kernel_rfl) (by kernel_rfl) (λb a h=>h) (λf h=>?_) (λf h c=>?_) BN
 ·exact OF.1 Lw f (Jn h)
 ·exact OF.1 zy f (Jn h)
def LV(Q P:NR)(s:Lets)(jk:NA->Prop):Up (JS Q P s jk) (JS Q Q s jk) :=
 ⟨λ_ h=>h,λ_ h=>h,λ_ _ h=>h,λ_ h=>h,λ_ ⟨⟨g,a,_⟩,b⟩=>⟨⟨g,a,a⟩,b⟩,rfl⟩
def up(jk:NA->Prop):Up (JS Ya NV ls jk) (JS Ya Ya ls jk):=LV _ _ _ _
def Fg:∀c,Ya.funcs[c]?≠Tryz.prog.funcs[c]?->∀a k d u,∃o w i,Pj Ya NB { frame:=OT Ya c a k,callers:=d,status:=.running,dying:=Ns } u NB=.ended o w i:=by
 intro c h a k d u;have e:c=85:=OK λf=>h (bG c f);subst e;have g:(Ya.funcs[85]?).bind (·.body)=Nq (.exit 0):=by kernel_rfl
 unfold OT;dsimp only;rw[g];exact⟨_,_,_,rfl⟩
def hrf:Tryz.prog.follows .rangeFuncRecover=NB:=by kernel_rfl
end
end Go.Proofs.YtidgnkmjgioapaaGreat
section
namespace Go.Co
open Go Go.Sim
def frz:Obj->Obj
 | .cells c e f=>.cells c e (0,max c.size f.2)
 | _=>.cells #[] 0
noncomputable def pG(Q:NR)(W:Nt)(nds jks:Nu NA)(b:NA):Obj :=
 if b∈jks then Lg Q else if b∈nds then(match W.heap[b]? with | some o=>frz o | none=>.cells #[] 0) else .cells #[] 0
noncomputable def lw(Q:NR)(W:Nt)(nds jks:Nu NA):Nt:={ W with heap:=(Se W.heap.size).map (pG Q W nds jks) }
def lr(n:NA)(nds jks:Nu NA):Ren:=(Oo n).map λb=>if b∈nds\/b∈jks then Nq b else Ns
section
variable{Q:NR}{W:Nt}{nds jks:Nu NA}
def BP:(lw Q W nds jks).heap.size=W.heap.size:=by simp[lw]
def vX{b:NA}(h:b<W.heap.size):(lw Q W nds jks).heap[b]?=Nq (pG Q W nds jks b):=by simp[lw,h]
def pR{n i j:NA}:BR (lr n nds jks) i j↔i<n/\i=j/\(i∈nds\/i∈jks):=by
 unfold BR lr;rw[Pa];by_cases h:i<n
 ·rw[Ra h];simp only[Pp,OM,h,true_and];split
  ·rename_i hm;simp[hm]
  ·rename_i hm;simp[hm]
 ·rw[OO (by simp;omega)];simp[h]
def BW{b:NA}{a:NJ Ny}{e:NZ}{f:NA × NA}(d:b∈nds)(c:b∉jks)(h:W.heap[b]?=Nq (.cells a e f)):(lw Q W nds jks).heap[b]?=Nq (.cells a e (0,max a.size f.2)):=by
 rw[vX (Nz.1 h).1];unfold pG;rw[if_neg c,if_pos d,h];rfl
def Mo[J:JunkSet]{w:Nt}(l:∀i,JunkSet.jk i↔i∈jks)(H:Q.globals.size=0)(I:∀b∈nds,b∉jks)(G:∀b∈nds,b<W.heap.size)(B:∀b∈jks,b<W.heap.size)(p:∀b∈nds,∃n e f,W.heap[b]?=Nq (.cells n e f)/\∀(i:NA) (v:Ny),n[i]?=Nq v->VR (lr W.heap.size nds jks) v v)(z:∀b∈nds,w.heap[b]?=W.heap[b]?)(F:W.heap.size<=w.heap.size)(a:w.os=W.os)(q:∀b∈jks,∃c e f,w.heap[b]?=Nq (.cells c e f)) :WR Q W.heap.size (lr W.heap.size nds jks) (lw Q W nds jks) w where
 len:=by simp[lr,lw]
 nodup:=λi D j h C=>by rw[pR] at h C;omega
 lt:=λi j h=>by rw[pR] at h;omega
 obj:=λi j o h d=>by
  rw[pR] at h;obtain⟨u,rfl,t⟩:=h;rw[vX u] at d;cases d;by_cases hm:i∈jks
  ·refine .inl ⟨(l i).2 hm,by unfold pG;rw[if_pos hm],by omega,q i hm⟩
  ·have g:i∈nds:=t.resolve_right hm;have⟨n,e,f,s,A⟩:=p i g;refine .inr ⟨λk=>hm ((l i).1 k),.cells n e f,by rw[z i g,s],?_⟩;have:pG Q W nds jks i=.cells n e (0,max n.size f.2):=by
    unfold pG;rw[if_neg hm,if_pos g,s];rfl
   rw[this];exact .cells e ⟨rfl,λk x y d r=>by rw[d] at r;cases r;exact A k x d⟩ λo u t=>by omega
 low:=λi hi=>by
  rw[vX hi];unfold pG;split
  ·exact⟨_,_,_,rfl,λo a=>by simp at a⟩
  ·split
   ·split
    ·rename_i o a
     cases o with
     | cells c e f=>exact⟨_,_,_,rfl,λo a=>by simp;omega⟩
     | _=>exact⟨_,_,_,rfl,λo a=>by simp at a⟩
    ·exact⟨_,_,_,rfl,λo a=>by simp at a⟩
   ·exact⟨_,_,_,rfl,λo a=>by simp at a⟩
 env:=by show W.os.env=w.os.env;rw[a]
 below:=λi hi=>B i ((l i).1 hi)
 gar:=λi o d=>by
  right;have hi:i<W.heap.size:=by
   have:=(Nz.1 d).1
   rwa [BP] at this
  rw[vX hi] at d;cases d;unfold pG;split
  ·rfl
  ·split
   ·split
    ·rename_i o _;cases o<;>rfl
    ·rfl
   ·rfl
end
end Go.Co
namespace Go.Proofs.YtidgnkmjgioapaaGreat
open Go Go.Co Go.Sim
section
variable{Q:NR}{W:Nt}{nds jks:Nu NA}{lo hi:NA}
def jT{b o:NA}{a:NJ Ny}{e:NZ}{f:NA × NA}{v:Ny}(g:b∈nds)(d:b∉jks)(h:W.heap[b]?=Nq (.cells a e f))(c:a[o]?=Nq v):(lw Q W nds jks).cell? ⟨b,o,Ns⟩=Nq v :=
 aa (BW g d h) c
def BX{v:Ny}{l:Nu NH}(h:aj lo hi W v l)(i:∀b∈nds,b∉jks)(j:∀B o n c,v=.slice (Nq ⟨B,o,Ns⟩) n c->l≠[]->B∈nds):aj lo hi (lw Q W nds jks) v l:=by
 obtain⟨base,d,rfl,g,f⟩:=h;refine⟨base,d,rfl,g,λa=>?_⟩;obtain⟨B,o,s,t,rfl,r,q,p,k⟩:=f a;have e:=j B o _ _ rfl a;exact⟨B,o,s,_,rfl,r,q,BW e (i B e) p,k⟩
def BQ{v:Ny}{d:Nu Par}(h:aD lo hi W v d)(j:∀b∈nds,b∉jks)(k:∀B o n c,v=.slice (Nq ⟨B,o,Ns⟩) n c->d≠[]->B∈nds):aD lo hi (lw Q W nds jks) v d:=by
 obtain⟨base,e,rfl,i,g⟩:=h;refine⟨base,e,rfl,i,λa=>?_⟩;obtain⟨B,o,s,t,rfl,r,q,p,l⟩:=g a;have f:=k B o _ _ rfl a;exact⟨B,o,s,_,rfl,r,q,BW f (j B f) p,l⟩
def Gj{v:Ny}{n:NA}{c:NA->NA->NH}(h:iH lo hi W v n c)(k:∀b∈nds,b∉jks)(l:∀B o g c,v=.slice (Nq ⟨B,o,Ns⟩) g c->0<n->B∈nds):iH lo hi (lw Q W nds jks) v n c:=by
 obtain⟨base,d,rfl,j,i⟩:=h;refine⟨base,d,rfl,j,λa=>?_⟩;obtain⟨B,o,t,f,u,rfl,s,r,q,p⟩:=i a;have e:=l B o _ _ rfl a;exact⟨B,o,t,f,_,rfl,s,r,BW e (k B e) q,p⟩
end
end Go.Proofs.YtidgnkmjgioapaaGreat
end
section
namespace Go.Proofs.YtidgnkmjgioapaaGreat
open Go Go.RowKit Go.Conc Go.ConcN Go.ConcN.Gen Go.Conc.Lib Go.ConcR.Gen Go.Co Go.Sim
inductive Lam | st | ld (i:NA) | wk (i:NA) | fn
structure Ph4 where
 W1:Nt
 clA:NA->Cl
 lo:NA
 Wg:NA
 Nx:NA
 A:NA
 Fd:NA
 Y:NA
 V:NA
 B:NA
 ps:Nu Par
 lim:NH
 l:Nu NH
 wl:Nu NH
 N:NA
 c:NA->NA->NH
 yb:NO OX
 yc:NA
 ab:NO OX
 ac:NA
 pv:Ny
 vv:Ny
 nds:Nu NA
 Post:Ny->Nt->Prop
 Fin:NF->Nt->Prop
 AnchW:NF->Nt->Prop
namespace Ph4
variable(x:Ph4)
def jks:Nu NA:=[x.Wg,x.Nx,x.Fd]
def jk(b:NA):Prop:=b∈x.jks
@[reducible] noncomputable def js:JunkSet:=JS Ya NV ls x.jk
def Fz(b:NA):Prop:=b<x.W1.heap.size/\x.clA b=.ro x.lo
def Sy(b:NA):Prop:=b=x.Nx\/b=x.Fd
def DataAt(W:NA × OI)(w:Nt):Prop:=w.heap[x.Nx]?=Nq (.cells #[W.1] 158 (0,0))/\w.heap[x.Fd]?=Nq (.cells #[.int .u32 (if W.2 then 1 else 0)] 161 (0,0))
def Liv(w:Nt):Prop:=QO 166 x.Wg w/\∃W,x.DataAt W w
def K(w w₁:Nt):Prop:=(QO 166 x.Wg w->QO 166 x.Wg w₁)/\((∃W,x.DataAt W w)->∃W,x.DataAt W w₁)
def gn:NA->NH:=pre Par.mn x.ps x.ps.length
def gx:NA->NH:=pre Par.mx x.ps x.ps.length
def bad(i:NA):OI:=aC x.ps (ovr (x.c i) x.gn x.wl x.wl.length) x.l && !aC x.ps (ovr (x.c i) x.gx x.wl x.wl.length) x.l
noncomputable def w0:Nt:=lw Ya x.W1 x.nds x.jks
def r0:Ren:=Go.Co.lr x.W1.heap.size x.nds x.jks
def tmp0:NJ Ny:=tm0 x.Wg x.Nx x.A x.Fd x.Y x.V x.B
structure Ok:Prop where
 hlo:1<=x.lo
 hY:x.W1.heap[x.Y]?=Nq (.cells #[.slice x.yb x.ps.length x.yc,x.lim] 91 (0,0))
 hV:x.W1.heap[x.V]?=Nq (.cells #[x.vv] 29 (0,0))
 hB:x.W1.heap[x.B]?=Nq (.cells #[x.pv] 29 (0,0))
 hA:x.W1.heap[x.A]?=Nq (.cells #[.slice x.ab x.N x.ac] 152 (0,0))
 pars:aD 0 x.W1.heap.size x.W1 (.slice x.yb x.ps.length x.yc) x.ps
 ints:aj 0 x.W1.heap.size x.W1 x.vv x.wl
 intp:aj 0 x.W1.heap.size x.W1 x.pv x.l
 cas:iH 0 x.W1.heap.size x.W1 (.slice x.ab x.N x.ac) x.N x.c
 n5:x.ps.length<=5
 bmn:∀i,0<=x.gn i/\x.gn i<=1000
 bmx:∀i,0<=x.gx i/\x.gx i<=1000
 bc:∀i d,0<=x.c i d/\x.c i d<=1000
 hl:∀y∈x.l,0<=y/\y<x.ps.length
 ll:x.l.length<=1000
 hwl:∀y∈x.wl,0<=y/\y<5
 hN:x.N<=900000
 jlt:∀b∈x.jks,b<x.W1.heap.size
 ne1:x.Nx≠x.Fd
 ne2:x.Wg≠x.Nx
 ne3:x.Wg≠x.Fd
 sync:∀b∈x.jks,x.clA b=.sync
 nro:∀b∈x.nds,x.clA b=.ro x.lo
 nok:∀b∈x.nds,∃cs e f,x.W1.heap[b]?=Nq (.cells cs e f)/\∀(i:NA) (v:Ny),cs[i]?=Nq v->@VR x.js x.r0 v v
 n0:0∈x.nds
 nY:x.Y∈x.nds
 nV:x.V∈x.nds
 nB:x.B∈x.nds
 nA:x.A∈x.nds
 nyb:∀B o n c,OS x.yb x.ps.length x.yc=.slice (Nq ⟨B,o,Ns⟩) n c->x.ps≠[]->B∈x.nds
 nvv:∀B o n c,x.vv=.slice (Nq ⟨B,o,Ns⟩) n c->x.wl≠[]->B∈x.nds
 npv:∀B o n c,x.pv=.slice (Nq ⟨B,o,Ns⟩) n c->x.l≠[]->B∈x.nds
 nab:∀B o n c,OS x.ab x.N x.ac=.slice (Nq ⟨B,o,Ns⟩) n c->0<x.N->B∈x.nds
 cla0:∀b,x.W1.heap.size<=b->x.clA b=.mine 0
structure Cm(w:Nt):Prop where
 liv:x.Liv w
 fz:∀b,x.Fz b->w.heap[b]?=x.W1.heap[b]?
 size:x.W1.heap.size<=w.heap.size
 os:w.os=x.W1.os
structure Wk(S:Bs)(Z:Ren)(a:QF)(tm:NJ Ny)(wq w:Nt):Prop where
 rel:@LG x.js Ya NV x.W1.heap.size x.Fz S x.jk (λb=>b<x.W1.heap.size) Z a tm wq w
 le:Le x.r0 Z
 gr:x.w0.grownBy (wq.tp x.w0.tape) Ns
 sz:a.tmps.size=60
 cap:∀k,k<7->a.tmps[k]?=x.tmp0[k]?
def WA(l:Lam)(S:Bs)(g:NF)(w:Nt):Prop:=x.Cm w/\match l with
 | .st=>(g=born NV (tJ x.Wg x.Nx x.A x.Fd x.Y x.V x.B)/\∀b,¬ S b) \/
   ∃Z a c d,x.Wk S Z a c d w/\g=G ((Oq 143).at ⟨#[pt x.Fd,.bool NB,NG,NG,pt x.Fd,pt x.Fd,pt x.Fd,.bool NB,.int .u32 1,.tuple #[]],[]⟩ [.inRegion qa []]) [f10 c (dn x.Wg),bot]
 | .ld i=>i<x.N/\∃Z a c d,x.Wk S Z a c d w/\g=G ((Oq 141).at ⟨#[pt x.Nx,.int .i64 1,NG,NG,.int .i64 0,pt x.Nx,pt x.Nx,pt x.Nx,.int .i64 1,.int .i64 (i+1)],[]⟩ [.inRegion mM [5],.code .ret]) [f1 c (dn x.Wg),bot]
 | .wk i=>i<x.N/\∃Z a c d,x.Wk S Z a c d w/\a.tmps[7]?=Nq (.int .i64 i)/\a.tmps[18]?=Nq (.bool NC)/\g=G ((Oq 142).at ⟨#[pt x.Fd,NG,.bool NC,pt x.Fd,pt x.Fd,pt x.Fd,.int .u32 0,NG],[]⟩ [.inRegion mK [4,5],.code .ret]) [f2 c (dn x.Wg),bot]
 | .fn=>∃Z a c d,x.Wk S Z a c d w/\((∃i:NA,x.N<=i/\i<=1000000/\g=G ((Oq 141).at ⟨#[pt x.Nx,.int .i64 1,NG,NG,.int .i64 0,pt x.Nx,pt x.Nx,pt x.Nx,.int .i64 1,.int .i64 (i+1)],[]⟩ [.inRegion mM [5],.code .ret]) [f1 c (dn x.Wg),bot]) \/
   (a.tmps[18]?=Nq (.bool NC)/\g=G ((Oq 142).at ⟨#[pt x.Fd,NG,.bool NC,pt x.Fd,pt x.Fd,pt x.Fd,.int .u32 1,NG],[]⟩ [.inRegion mK [4,5],.code .ret]) [f2 c (dn x.Wg),bot]))
def fin:Lam->Prop | .fn=>TL | _=>RI
def Tr(W:NA × OI)(l:Lam)(γ':NA × OI)(a:Lam):Prop :=
 ((l=.st\/∃i,l=.wk i/\x.bad i=NC)/\γ'=(W.1+1,W.2)/\a=(if W.1<x.N then .ld W.1 else .fn)) \/
 (∃i,l=.ld i/\γ'=W/\a=(if W.2 then .fn else .wk i)) \/
 (∃i,l=.wk i/\x.bad i=NB/\i<x.N/\γ'=(W.1,NB)/\a=.st)
def qd:Lam->OI | .fn=>NB | _=>NC
def kh:NA->(NA->Lam)->NA
 | 0,_=>0
 | j+1,ls=>kh j ls+(if qd (ls j) then 1 else 0)
def J(W:NA × OI)(j:NA)(ls:NA->Lam):Prop :=
 W.1<=x.N+kh j ls/\(W.2=NB->∃i,i<x.N/\x.bad i=NB)/\(W.2=NC->∀i,i<x.N->i<W.1->x.bad i=NC\/∃k,k<j/\(ls k=.ld i\/ls k=.wk i))/\(∀k,k<j->ls k=.fn->W.2=NB\/x.N<=W.1)
def m(W:NA × OI):NA:=3*(x.N - W.1)
def nu:Lam->NA | .fn=>0 | .st=>1 | .wk _=>2 | .ld _=>3
noncomputable def cfg:Cfg (NA × OI) Lam where
 P:=NV
 ty:=166
 Wg:=x.Wg
 lo:=x.lo
 n:=min 4 x.N
 Fz:=x.Fz
 Sy:=x.Sy
 clA:=x.clA
 DataAt:=x.DataAt
 WA:=x.WA
 Tr:=x.Tr
 J:=x.J
 m:=x.m
 nu:=nu
 l0:=.st
 fin:=fin
 W1:=x.W1
 Fin:=x.Fin
 AnchW:=x.AnchW
 Post:=x.Post
end Ph4
end Go.Proofs.YtidgnkmjgioapaaGreat
end
section
namespace Go.Proofs.YtidgnkmjgioapaaGreat
open Go Go.RowKit Go.Conc Go.ConcN Go.ConcN.Gen Go.Conc.Lib Go.ConcR.Gen Go.Co Go.Sim
namespace Ph4
section
variable{x:Ph4}{S:Bs}{w w₁:Nt}{Z:Ren}{a:QF}{tm:NJ Ny}{wq:Nt}
def kt:∀a b c,x.cfg.K a b->x.cfg.K b c->x.cfg.K a c:=Cfg.K.trans
def Cm.rely(h:x.Cm w)(r:RC x.Fz x.cfg.K S w w₁):x.Cm w₁ :=
 ⟨⟨r.k.1 h.liv.1,r.k.2 h.liv.2⟩,λb c=>(r.fz b c).t (h.fz b c),NM h.size r.size,r.os.trans h.os⟩
def Liv.cells(h:x.Liv w){b:NA}(d:b∈x.jks):∃c e f,w.heap[b]?=Nq (.cells c e f):=by
 obtain⟨⟨l,n,i⟩,W,k,j⟩:=h;unfold jks at d;simp only[ON,PY,or_false] at d;rcases d with rfl | rfl | rfl
 ·exact⟨_,_,_,i⟩
 ·exact⟨_,_,_,k⟩
 ·exact⟨_,_,_,j⟩
def Wk.to(h:x.Wk S Z a tm wq w)(g:∀b,x.Fz b\/S b->w₁.heap[b]?=w.heap[b]?)(k:w.heap.size<=w₁.heap.size)(l:w₁.os=w.os)(n:x.Liv w₁):x.Wk S Z a tm wq w₁:=by
 letI:JunkSet:=x.js
 exact{ h with rel:=⟨h.rel.len,h.rel.wr.rely k (by rw[l]) (λi j c d=>by
    rcases PP i x.W1.heap.size with e | f
    ·exact g j (.inl (h.rel.own.low i j c e d))
    ·exact g j (.inr (h.rel.own.own i j c f))) (λi j c d=>n.cells (h.rel.jb i j c d)),h.rel.gl,h.rel.tm,h.rel.df,h.rel.own,h.rel.jb,h.rel.js⟩ }
def Wk.rely(h:x.Wk S Z a tm wq w)(c:x.Cm w)(r:RC x.Fz x.cfg.K S w w₁):x.Wk S Z a tm wq w₁ :=
 h.to (λb d=>d.elim (r.fz b) (r.own b)) r.size r.os (c.rely r).liv
def Wk.set(h:x.Wk S Z a tm wq w)(i:NA)(d:7<=i){u v:Ny}(b:@VR x.js Z u v):x.Wk S Z ⟨a.tmps.setIfInBounds i u,a.defers⟩ (tm.setIfInBounds i v) wq w:=by
 letI:JunkSet:=x.js
 exact{ h with
  rel:=⟨h.rel.len,h.rel.wr,h.rel.gl,@AsR.set x.js _ _ _ h.rel.tm i _ _ b,h.rel.df,h.rel.own,h.rel.jb,h.rel.js⟩
  sz:=by simp[h.sz]
  cap:=λk c=>by
   show(a.tmps.setIfInBounds i u)[k]?=_;rw[Po (by omega)];exact h.cap k c }
def br0{b:NA}(d:b∈x.nds\/b∈x.jks)(c:b<x.W1.heap.size):BR x.r0 b b:=pR.2 ⟨c,rfl,d⟩
def Wk.ptr(h:x.Wk S Z a tm wq w){k b:NA}(i:a.tmps[k]?=Nq (pt b))(j:BR x.r0 b b):tm[k]?.getD NG=pt b:=by
 letI:JunkSet:=x.js
 have⟨y,g,e⟩:=@AsR.get x.js _ _ _ h.rel.tm k _ i;rw[g];unfold pt at e ⊢;cases e with
 | ptr f d c=>rw[BR.fn c (j.mono h.le)];rfl
def Wk.bool(h:x.Wk S Z a tm wq w){k:NA}{t:OI}(d:a.tmps[k]?=Nq (.bool t)):tm[k]?.getD NG=.bool t:=by
 letI:JunkSet:=x.js
 have⟨y,b,c⟩:=@AsR.get x.js _ _ _ h.rel.tm k _ d;rw[b];cases c;rfl
def Wk.tsz(h:x.Wk S Z a tm wq w):tm.size=60:=by
 letI:JunkSet:=x.js
 have b:=h.rel.tm.1;rw[<- b];exact h.sz
def Ok.fz(o:x.Ok){b:NA}(c:b∈x.nds):x.Fz b:=by
 have⟨d,e,f,h,_⟩:=o.nok b c;exact⟨(Nz.1 h).1,o.nro b c⟩
def Ok.dj(o:x.Ok):∀b∈x.nds,b∉x.jks:=λb e d=>by
 have c:=o.nro b e;rw[o.sync b d] at c;cases c
def Ok.ndlt(o:x.Ok){b:NA}(c:b∈x.nds):b<x.W1.heap.size:=(o.fz c).1
def Ok.t1(o:x.Ok)(h:x.Wk S Z a tm wq w):tm[1]?.getD NG=pt x.Nx:=h.ptr ((h.cap 1 (by omega)).t (by simp[tmp0,tm0,Rx])) (br0 (.inr (by simp[jks])) (o.jlt _ (by simp[jks])))
def Ok.t2(o:x.Ok)(h:x.Wk S Z a tm wq w):tm[2]?.getD NG=pt x.A:=h.ptr ((h.cap 2 (by omega)).t (by simp[tmp0,tm0,Rx])) (br0 (.inl o.nA) (o.ndlt o.nA))
def Ok.t3(o:x.Ok)(h:x.Wk S Z a tm wq w):tm[3]?.getD NG=pt x.Fd:=h.ptr ((h.cap 3 (by omega)).t (by simp[tmp0,tm0,Rx])) (br0 (.inr (by simp[jks])) (o.jlt _ (by simp[jks])))
def Ok.cellA(o:x.Ok)(h:x.Cm w):w.cell? x.A=Nq (.slice x.ab x.N x.ac):=aa ((h.fz _ (o.fz o.nA)).t o.hA) rfl
def Ok.vrA(o:x.Ok):@VR x.js x.r0 (.slice x.ab x.N x.ac) (.slice x.ab x.N x.ac):=by
 have⟨c,e,f,h,b⟩:=o.nok _ o.nA;rw[o.hA] at h;cases h;exact b 0 _ rfl
end
end Ph4
end Go.Proofs.YtidgnkmjgioapaaGreat
end
section
namespace Go.Proofs.YtidgnkmjgioapaaGreat
open Go Go.RowKit Go.Conc Go.ConcN Go.ConcN.Gen Go.Conc.Lib Go.ConcR.Gen Go.Co Go.Sim
def lp{w:Nt}{b o:NA}{c:NJ Ny}{e:NZ}(h:w.heap[b]?=Nq (.cells c e (0,0))):w.frozen? ⟨b,o,Ns⟩=NC:=by
 simp[RN,h]
def Jr{n:NA}(h:n<=1000001):IntKind.i64.wrap (n:NH)=n:=Ov _ (by omega)
namespace Ph4
def JJ(j:NA)(ls:NA->Lam):kh j ls<=j:=by
 induction j with
 | zero=>exact Nv _
 | succ j b=>unfold kh;split<;>omega
section
variable{x:Ph4}(o:x.Ok){S:Bs}{w:Nt}{Z:Ren}{a:QF}{tm:NJ Ny}{wq:Nt}
include o
theorem Ok.fzne{b:NA}(d:x.Fz b){j:NA}(c:j∈x.jks):b≠j:=by
 rintro rfl;have h:=d.2;rw[o.sync _ c] at h;cases h
theorem Ok.after(e:x.Cm w){b:NA}(f:b=x.Nx\/b=x.Fd)(v:Ny){γ':NA × OI}(j:x.DataAt γ' (w.setCell b v)):x.Cm (w.setCell b v) where
 liv:=by
  have⟨g,h,i⟩:=e.liv.1;refine⟨⟨g,h,?_⟩,γ',j⟩;show(w.setCell b v).heap[x.Wg]?=_;rw[RJ _ _ _ _ (by rcases f with rfl | rfl;exact o.ne2;exact o.ne3)];exact i
 fz:=λc d=>by
  rw[RJ _ _ _ _ (o.fzne d (by rcases f with rfl | rfl<;>simp[jks]))];exact e.fz c d
 size:=by simpa using e.size
 os:=e.os
theorem Ok.wkafter(i:x.Cm w)(h:x.Wk S Z a tm wq w){b:NA}(g:b=x.Nx\/b=x.Fd)(v:Ny)(f:x.Liv (w.setCell b v)):x.Wk S Z a tm wq (w.setCell b v):=by
 letI:JunkSet:=x.js
 have e:b∈x.jks:=by rcases g with rfl | rfl<;>simp[jks]
 refine h.to (λc d=>?_) (by simp) rfl f;refine RJ _ _ _ _ ?_;rcases d with d | d
 ·exact o.fzne d e
 ·rintro rfl;exact h.rel.js _ (o.jlt _ e) d
theorem Ok.sync1{l:Lam}(t:l=.st\/∃i,l=.wk i/\x.bad i=NC)(v:x.Cm w)(h:x.Wk S Z a tm wq w) :x.cfg.Stop l S (G ((Oq 141).at ⟨#[pt x.Nx,.int .i64 1,NG,NG,.int .i64 0,pt x.Nx,pt x.Nx,pt x.Nx,.int .i64 1,NG],[]⟩ [.inRegion mM [4,5],.code .ret]) (f1 tm (dn x.Wg)::[bot])) w:=by
 refine⟨rfl,.inr ⟨by rcases t with rfl | ⟨i,rfl,_⟩<;>exact id,?_⟩⟩;rintro⟨c,b⟩ B ⟨j,ls,z,hJ⟩;have hγ:c<=x.N+4:=by
  have I:c<=x.N+kh j ls:=hJ.1;have F:=JJ j ls;have H:j<=min 4 x.N:=z;omega
 have D:=o.hN;obtain⟨s,C⟩:=B;have d:w.cell? x.Nx=Nq (.int .i64 c):=aa s rfl;have y:=lp (o:=0) s;have p:IntKind.i64.wrap ((c:NH)+1)=c+1:=by have:=Jr (n:=c+1) (by omega);simpa using this
 have k:x.DataAt (c+1,b) (w.setCell x.Nx (.int .i64 (c+1))):=by
  refine⟨?_,?_⟩
  ·rw[VW _ _ _ _ _ _ s];simp
  ·rw[RJ _ _ _ _ (Ne.symm o.ne1)];exact C
 have f:=o.after v (.inl rfl) (.int .i64 (c+1)) k;have g:=o.wkafter v h (.inl rfl) (.int .i64 (c+1)) f.liv;refine⟨G ((Oq 141).at ⟨#[pt x.Nx,.int .i64 1,NG,NG,.int .i64 0,pt x.Nx,pt x.Nx,pt x.Nx,.int .i64 1,.int .i64 (c+1)],[]⟩ [.inRegion mM [5],.code .ret]) (f1 tm (dn x.Wg)::[bot]),w.setCell x.Nx (.int .i64 (c+1)),#[⟨.cell ⟨x.Nx,0,Ns⟩,NC,NB⟩,⟨.cell ⟨x.Nx,0,Ns⟩,NB,NB⟩],(c+1,b),if c<x.N then .ld c else .fn,?_,λc r=>RJ _ _ _ _ λe=>r (.inl e),by simp,rfl,rfl,?_,k,.inl ⟨t,rfl,rfl⟩,?_⟩
 ·refine(SF (o:=mM[4]'(by simp only[mM,Vh,NK,sqA,sqB,aY];decide)) (by simp) (by simp only[mM,Vh,NK,sqA,sqB,aY];rfl) (by k_ne) (by simp only[mM,Vh,NK,sqA,sqB,aY];rfl) Tryz.func179 (by kernel_rfl) (by kernel_rfl) (by kernel_rfl) .i64 (by kernel_rfl) rfl rfl d y).trans ?_;rw[p];simp only[mM,Vh,NK,sqA,sqB,aY];rfl
 ·intro e u;simp at u;rcases u with rfl | rfl
  ·exact⟨_,_,rfl,.inl rfl⟩
  ·exact⟨_,_,rfl,.inl rfl⟩
 ·show x.WA _ _ _ _;split
  ·rename_i q
   exact⟨f,q,Z,a,tm,wq,g,rfl⟩
  ·rename_i A
   exact⟨f,Z,a,tm,wq,g,.inl ⟨c,by omega,by omega,rfl⟩⟩
theorem Ok.sync2{i:NA}(p:i<x.N)(n:x.Cm w)(h:x.Wk S Z a tm wq w)(r:a.tmps[7]?=Nq (.int .i64 i))(f:a.tmps[18]?=Nq (.bool NC)) :x.cfg.Stop (.ld i) S (G ((Oq 142).at ⟨#[pt x.Fd,NG,.bool NC,pt x.Fd,pt x.Fd,pt x.Fd,NG,NG],[]⟩ [.inRegion mK [3,4,5],.code .ret]) (f2 tm (dn x.Wg)::[bot])) w:=by
 refine⟨rfl,.inr ⟨id,?_⟩⟩;rintro⟨c,b⟩ l ⟨j,ls,t,hJ⟩;have g:=l;obtain⟨u,s⟩:=l;have d:w.cell? x.Fd=Nq (.int .u32 (if b then 1 else 0)):=aa s rfl;refine⟨G ((Oq 142).at ⟨#[pt x.Fd,NG,.bool NC,pt x.Fd,pt x.Fd,pt x.Fd,.int .u32 (if b then 1 else 0),NG],[]⟩ [.inRegion mK [4,5],.code .ret]) (f2 tm (dn x.Wg)::[bot]),w,#[⟨.cell ⟨x.Fd,0,Ns⟩,NC,NB⟩],(c,b),if b then .fn else .wk i,?_,λc q=>rfl,rfl,rfl,rfl,?_,g,.inr (.inl ⟨i,rfl,rfl,rfl⟩),?_⟩
 ·refine(SY (o:=mK[3]'(by simp only[mK,UG,NK,sqA,sqB,aY];decide)) (by simp) (by simp only[mK,UG,NK,sqA,sqB,aY];rfl) (by k_ne) (by simp only[mK,UG,NK,sqA,sqB,aY];rfl) ZR (by kernel_rfl) (by kernel_rfl) (by kernel_rfl) .u32 (by kernel_rfl) rfl d).trans ?_;simp only[mK,UG,NK,sqA,sqB,aY];rfl
 ·intro e k;simp at k;subst k;exact⟨_,_,rfl,.inr rfl⟩
 ·show x.WA _ _ _ _;cases b with
  | true=>exact⟨n,Z,a,tm,wq,h,.inr ⟨f,rfl⟩⟩
  | false=>exact⟨n,p,Z,a,tm,wq,h,r,f,rfl⟩
theorem Ok.sync3{i:NA}(s:i<x.N)(u:x.bad i=NB)(q:x.Cm w)(h:x.Wk S Z a tm wq w) :x.cfg.Stop (.wk i) S (G ((Oq 143).at ⟨#[pt x.Fd,.bool NB,NG,NG,pt x.Fd,pt x.Fd,pt x.Fd,.bool NB,.int .u32 1,NG],[]⟩ [.inRegion qa [5]]) (f10 tm (dn x.Wg)::[bot])) w:=by
 refine⟨rfl,.inr ⟨id,?_⟩⟩;rintro⟨c,b⟩ t ⟨j,ls,y,hJ⟩;obtain⟨v,n⟩:=t;have d:w.cell? x.Fd=Nq (.int .u32 (if b then 1 else 0)):=aa n rfl;have r:=lp (o:=0) n;have f:x.DataAt (c,NB) (w.setCell x.Fd (.int .u32 1)):=by
  refine⟨?_,?_⟩
  ·rw[RJ _ _ _ _ o.ne1];exact v
  ·rw[VW _ _ _ _ _ _ n];simp
 have g:=o.after q (.inr rfl) (.int .u32 1) f;have k:=o.wkafter q h (.inr rfl) (.int .u32 1) g.liv;refine⟨G ((Oq 143).at ⟨#[pt x.Fd,.bool NB,NG,NG,pt x.Fd,pt x.Fd,pt x.Fd,.bool NB,.int .u32 1,.tuple #[]],[]⟩ [.inRegion qa []]) (f10 tm (dn x.Wg)::[bot]),w.setCell x.Fd (.int .u32 1),#[⟨.cell ⟨x.Fd,0,Ns⟩,NB,NB⟩],(c,NB),.st,?_,λc l=>RJ _ _ _ _ λe=>l (.inr e),by simp,rfl,rfl,?_,f,.inr (.inr ⟨i,rfl,u,s,rfl,rfl⟩),?_⟩
 ·refine(stepG_store_atomic (o:=qa[5]'(by simp only[qa,VG,NK,sqA,sqB,aY];decide)) (by simp) (by simp only[qa,VG,NK,sqA,sqB,aY];rfl) (by k_ne) (by simp only[qa,VG,NK,sqA,sqB,aY];rfl) Tryz.func181 (by kernel_rfl) (by kernel_rfl) (by kernel_rfl) (by kernel_rfl) rfl rfl d r).trans ?_;simp only[qa,VG,NK,sqA,sqB,aY];rfl
 ·intro e p;simp at p;subst p;exact⟨_,_,rfl,.inr rfl⟩
 ·exact(⟨g,.inr ⟨Z,a,tm,wq,k,rfl⟩⟩:x.WA .st S _ _)
end
end Ph4
end Go.Proofs.YtidgnkmjgioapaaGreat
end
section
namespace Go.Proofs.YtidgnkmjgioapaaGreat
open Go Go.RowKit Go.Conc Go.ConcN Go.ConcN.Gen Go.Conc.Lib Go.ConcR.Gen Go.Co Go.Sim
def Ij[JunkSet]{Z:Ren}{t:NJ Ny}(h:∀v∈t,VR Z v v):AsR Z t t:=⟨rfl,λi u v c b=>by
 rw[c] at b;cases b;exact h u (PR c)⟩
def LU:wX=.seq wR3 (.seq wR4 (.seq wR9 xh)):=by kernel_rfl
def ck3:gF Ya ls wR3=NB:=by kernel_rfl
def ck4:gF Ya ls wR4=NB:=by kernel_rfl
def ck9:gF Ya ls wR9=NB:=by kernel_rfl
def hrr(c:NS):Ou c [bot]=Ns:=by
 unfold Ou;split
 ·rename_i h
  cases h;simp[bot,Xh]
 ·rename_i h
  cases h;have:Ou bot []=Ns:=by
   unfold Ou;rfl
  rw[this];rfl
 ·rfl
namespace Ph4
section
variable{x:Ph4}(o:x.Ok){S:Bs}{w:Nt}{Z:Ren}{a:QF}{tm:NJ Ny}{wq:Nt}
include o
theorem Ok.born(f:x.Cm w)(n:∀b,¬ S b):x.Wk S x.r0 ⟨x.tmp0,[]⟩ x.tmp0 x.w0 w:=by
 letI:JunkSet:=x.js
 refine⟨⟨by simp[r0,Go.Co.lr],?_,λi p=>?_,?_,rfl,⟨λi j h _ g=>?_,λi j h c=>?_⟩,λi j h g=>?_,λj _=>n j⟩,Le.refl _,NN _ _,by simp[tmp0,tm0],λ_ _=>rfl⟩
 ·exact Mo (λi=>Iff.rfl) (by kernel_rfl) o.dj (λb c=>o.ndlt c) o.jlt o.nok (λb c=>f.fz b (o.fz c)) f.size f.os λb c=>f.liv.cells c
 ·have q:Tryz.prog.globals.size=0:=by kernel_rfl
  have:i=0:=by omega
  subst this;exact br0 (.inl o.n0) (o.ndlt o.n0)
 ·refine Ij λv k=>?_;have d:∀b,b∈x.nds\/b∈x.jks->VR x.r0 (pt b) (pt b):=λb c=>.ptr 0 Ns (br0 c (c.elim (λh=>o.ndlt h) λh=>o.jlt _ h));simp only[tmp0,tm0,Rm,Array.mem_replicate,Ro,ON,PY,or_false] at k;rcases k with(rfl | rfl | rfl | rfl | rfl | rfl | rfl) | ⟨_,rfl⟩
  ·exact d _ (.inr (by simp[jks]))
  ·exact d _ (.inr (by simp[jks]))
  ·exact d _ (.inl o.nA)
  ·exact d _ (.inr (by simp[jks]))
  ·exact d _ (.inl o.nY)
  ·exact d _ (.inl o.nV)
  ·exact d _ (.inl o.nB)
  ·exact gR _
 ·obtain⟨l,rfl,e⟩:=pR.1 h;rcases e with e | e
  ·exact o.fz e
  ·exact absurd e g
 ·obtain⟨l,rfl,e⟩:=pR.1 h;omega
 ·obtain⟨l,rfl,e⟩:=pR.1 h;exact g
theorem Ok.piece{d:Bs->NF->Nt->Prop}(hSo:∀S g w t,d S g w->d S { g with offers:=t } w){c:Qs}(hco:gF Ya ls c=NB){k:Nu Si}(hc:x.Cm w)(h:x.Wk S Z a tm wq w){R:QF->Nt->Prop}(hwp:∀T,c.wp Ya (eT R) a (wq.tp T))(hR:∀f u,R f u->f.defers=[]/\f.tmps.size=60/\(∀k,k<7->f.tmps[k]?=x.tmp0[k]?)/\x.w0.gb (u.tp x.w0.tape) Ns)(hend:∀s ρ' f j i l,R f i->x.Cm l->x.Wk s ρ' f j i l->az NV x.Fz x.cfg.K d s (G ((PD 139).at ⟨j,dn x.Wg⟩ k) [bot]) l) :az NV x.Fz x.cfg.K d S (G ((PD 139).at ⟨tm,dn x.Wg⟩ (.code c::k)) [bot]) w:=by
 letI:JunkSet:=x.js
 refine az.piece (J:=x.js) (Km x.jk) (X:=⟨JS Ya Ya ls x.jk⟩) (up x.jk) (Kl x.jk) hrf hrr Fg x.jk (λb=>b<x.W1.heap.size) x.Cm (λS w w₁ r e=>e.rely r) (λS w l L A q e=>?_) (λw b e n=>e.liv.cells n) (λw b e n=>NX n e.size) hSo (b:=PD 139) ?_ (by kernel_rfl) rfl (zw (λ_ h=>h) (λ_ h=>h) (λ_ _ h=>h) hco) h.rel hc hwp (λf u p=>(hR f u p).1) ?_
 ·refine⟨⟨?_,?_⟩,λb n=>(q b n.1).trans (e.fz b n),NM e.size A.size,A.os.trans e.os⟩
  ·have⟨C,D,F⟩:=e.liv.1;exact⟨C,D,(q _ (o.jlt _ (by simp[jks]))).trans F⟩
  ·have⟨W,B,z⟩:=e.liv.2;exact⟨W,(q _ (o.jlt _ (by simp[jks]))).trans B,(q _ (o.jlt _ (by simp[jks]))).trans z⟩
 ·refine⟨_,(bG 139 (by decide)).trans WI,WI⟩
 ·intro ρ' f j i l s p v hrel y;have⟨B,z,I,H⟩:=hR _ _ p;exact hend s ρ' f j i l p y ⟨hrel,h.le.trans v,H,z,I⟩
end
end Ph4
end Go.Proofs.YtidgnkmjgioapaaGreat
end
section
namespace Go.Proofs.YtidgnkmjgioapaaGreat
open Go Go.RowKit Go.Conc Go.ConcN Go.ConcN.Gen Go.Conc.Lib Go.ConcR.Gen Go.Co Go.Sim
def Ik(z:NJ Ny)(h:z.size=60):z=#[z[0]?.getD NG,z[1]?.getD NG,z[2]?.getD NG,z[3]?.getD NG,z[4]?.getD NG,z[5]?.getD NG,z[6]?.getD NG,z[7]?.getD NG,z[8]?.getD NG,z[9]?.getD NG,z[10]?.getD NG,z[11]?.getD NG,z[12]?.getD NG,z[13]?.getD NG,z[14]?.getD NG,z[15]?.getD NG,z[16]?.getD NG,z[17]?.getD NG,z[18]?.getD NG,z[19]?.getD NG,z[20]?.getD NG,z[21]?.getD NG,z[22]?.getD NG,z[23]?.getD NG,z[24]?.getD NG,z[25]?.getD NG,z[26]?.getD NG,z[27]?.getD NG,z[28]?.getD NG,z[29]?.getD NG,z[30]?.getD NG,z[31]?.getD NG,z[32]?.getD NG,z[33]?.getD NG,z[34]?.getD NG,z[35]?.getD NG,z[36]?.getD NG,z[37]?.getD NG,z[38]?.getD NG,z[39]?.getD NG,z[40]?.getD NG,z[41]?.getD NG,z[42]?.getD NG,z[43]?.getD NG,z[44]?.getD NG,z[45]?.getD NG,z[46]?.getD NG,z[47]?.getD NG,z[48]?.getD NG,z[49]?.getD NG,z[50]?.getD NG,z[51]?.getD NG,z[52]?.getD NG,z[53]?.getD NG,z[54]?.getD NG,z[55]?.getD NG,z[56]?.getD NG,z[57]?.getD NG,z[58]?.getD NG,z[59]?.getD NG]:=by
 obtain⟨y0,y1,y2,y3,y4,y5,y6,y7,y8,y9,c3,b9,b8,b7,b6,b0,a9,a8,a7,a6,Y,X,W,V,U,T,R,Q,P,O,N,M,L,I,H,G,F,D,C,B,A,y,v,u,t,s,r,q,p,n,l,k,j,i,g,f,e,d,c,b,rfl⟩:=rG z h;rfl
def yW{w0 wq c:Nt}{T:NA->Qe->NA}(h:w0.gb (wq.tp w0.tape) Ns)(b:(wq.tp T).gb c Ns):w0.gb (c.tp w0.tape) Ns :=
 ⟨b.os.trans h.os,rfl,b.output.trans h.output,NM h.size b.size,λk e d=>(b.block k (NX e h.size) d).t (h.block k e d)⟩
def GK{w0 wq:Nt}(T:NA->Qe->NA)(h:w0.gb (wq.tp w0.tape) Ns):(w0.tp T).gb (wq.tp T) Ns:=⟨h.os,rfl,h.output,h.size,h.block⟩
def Mu{w0 b:Nt}{T:NA->Qe->NA}(h:(w0.tp T).gb b Ns):w0.gb (b.tp w0.tape) Ns:=⟨h.os,rfl,h.output,h.size,h.block⟩
def Hw{z b:NJ Ny}(e:z.size=60)(d:∀k,k<7->z[k]?=b[k]?)(k:NA)(c:k<7):b[k]?=Nq (z[k]?.getD NG):=by
 rw[<- d k c,Om (by omega)];rfl
namespace Ph4
section
variable{x:Ph4}(o:x.Ok){S:Bs}{w:Nt}{Z:Ren}{a:QF}{tm:NJ Ny}{wq:Nt}
structure Base(x:Ph4)(i:NA)(a:QF)(u:Nt):Prop where
 df:a.defers=[]
 sz:a.tmps.size=60
 cap:∀k,k<7->a.tmps[k]?=x.tmp0[k]?
 gr:x.w0.grownBy (u.tp x.w0.tape) Ns
 i7:a.tmps[7]?=Nq (.int .i64 i)
def Rows(x:Ph4)(g h:NA->NH)(a:QF)(u:Nt):Prop:=∃c b,a.tmps[8]?=Nq (.pointer (Nq ⟨c,0,Ns⟩))/\a.tmps[9]?=Nq (.pointer (Nq ⟨b,0,Ns⟩))/\u.heap[c]?=Nq (aT g)/\u.heap[b]?=Nq (aT h)/\c≠b/\x.w0.heap.size<=c/\x.w0.heap.size<=b
def Wk.df(h:x.Wk S Z a tm wq w):a.defers=[]:=by
 letI:JunkSet:=x.js
 exact h.rel.df
include o
theorem Ok.capv(h:x.Wk S Z a tm wq w)(k b:NA)(c:k<7)(e:x.tmp0[k]?=Nq (pt b)):a.tmps[k]?.getD NG=.pointer (Nq b):=by
 rw[h.cap k c,e];rfl
theorem Ok.w0s:x.w0.heap.size=x.W1.heap.size:=BP
theorem Ok.wp3(h:x.Wk S Z a tm wq w){i:NA}(I:a.tmps[7]?=Nq (.int .i64 i))(T:NA->Qe->NA) :wR3.wp Ya (eT λa u=>x.Base i a u/\x.Rows x.gn x.gx a u) a (wq.tp T):=by
 have b:=h.df;obtain⟨z,d⟩:=a;have b:d=[]:=b;subst b;have g:z[4]?.getD NG=.pointer (Nq x.Y):=o.capv h 4 x.Y (by omega) (by simp[tmp0,tm0]);have p:=Hw h.sz h.cap;have j:z.size=60:=h.sz;have c:z[7]?=Nq (.int .i64 i):=I;have f:=GK T h.gr;have H:aD 0 x.W1.heap.size (wq.tp T) (.slice x.yb x.ps.length x.yc) x.ps:=(show aD 0 x.W1.heap.size (x.w0.tp T) (.slice x.yb x.ps.length x.yc) x.ps from BQ (Q:=Ya) (jks:=x.jks) o.pars o.dj o.nyb).kept f;have C:=o.ndlt o.nY;have r:(wq.tp T).cell? x.Y=Nq (.slice x.yb x.ps.length x.yc):=f.cl (jT o.nY (o.dj _ o.nY) o.hY rfl);have q:(wq.tp T).cell? ⟨x.Y,1,Ns⟩=Nq (.int .i64 x.lim):=f.cl (jT o.nY (o.dj _ o.nY) o.hY rfl);have y:x.W1.heap.size<=(wq.tp T).heap.size:=by rw[<- o.w0s];exact f.size
 generalize e:(λk:NA=>z[k]?.getD NG)=t;have A:z=#[t 0,t 1,t 2,t 3,t 4,t 5,t 6,t 7,t 8,t 9,t 10,t 11,t 12,t 13,t 14,t 15,t 16,t 17,t 18,t 19,t 20,t 21,t 22,t 23,t 24,t 25,t 26,t 27,t 28,t 29,t 30,t 31,t 32,t 33,t 34,t 35,t 36,t 37,t 38,t 39,t 40,t 41,t 42,t 43,t 44,t 45,t 46,t 47,t 48,t 49,t 50,t 51,t 52,t 53,t 54,t 55,t 56,t 57,t 58,t 59]:=by subst e;exact Ik z j
 have g:t 4=.pointer (Nq x.Y):=by subst e;exact g
 have p:∀k,k<7->x.tmp0[k]?=Nq (t k):=by subst e;exact p
 have c:t 7=.int .i64 i:=by subst e;show z[7]?.getD NG=_;rw[c];rfl
 rw[A];refine KX 0 x.W1.heap.size t (wq.tp T) _ x.ps x.lim x.Y x.yb x.yc g H y o.n5 r q (by omega) λM L N _ _ _ _ n v s l G F=>?_;have B:x.w0.heap.size<=(wq.tp T).heap.size:=by rw[o.w0s];exact y
 refine⟨⟨rfl,rfl,λk D=>?_,yW h.gr n,by rw[<- c];rfl⟩,M,L,rfl,rfl,v,s,l,by omega,by omega⟩;rw[p k D];obtain rfl | rfl | rfl | rfl | rfl | rfl | rfl:k=0\/k=1\/k=2\/k=3\/k=4\/k=5\/k=6:=by omega
 all_goals first | rfl | (rw[g];rfl)
theorem Ok.wp4(h:x.Wk S Z a tm wq w){i:NA}(W:i<x.N)(hb:x.Base i a wq)(R:x.Rows x.gn x.gx a wq)(T:NA->Qe->NA) :wR4.wp Ya (eT λa u=>x.Base i a u/\x.Rows (ovr (x.c i) x.gn x.wl x.wl.length) (ovr (x.c i) x.gx x.wl x.wl.length) a u) a (wq.tp T):=by
 obtain⟨s,r,n,l,H,G,f,j,g⟩:=R;have e:=h.df;obtain⟨z,d⟩:=a;have e:d=[]:=e;subst e;have L:=o.capv h 4 x.Y (by omega) (by simp[tmp0,tm0]);have q:=o.capv h 2 x.A (by omega) (by simp[tmp0,tm0]);have p:=o.capv h 5 x.V (by omega) (by simp[tmp0,tm0]);have M:=o.capv h 6 x.B (by omega) (by simp[tmp0,tm0]);have C:=Hw h.sz h.cap;have v:z.size=60:=h.sz;have I:z[7]?=Nq (.int .i64 i):=hb.i7;have n:z[8]?=Nq (.pointer (Nq s)):=n;have l:z[9]?=Nq (.pointer (Nq r)):=l;have X:=GK T h.gr;have P:x.W1.heap.size<=(x.w0.tp T).heap.size:=Sv o.w0s.symm;generalize b:(λk:NA=>z[k]?.getD NG)=t;have O:z=#[t 0,t 1,t 2,t 3,t 4,t 5,t 6,t 7,t 8,t 9,t 10,t 11,t 12,t 13,t 14,t 15,t 16,t 17,t 18,t 19,t 20,t 21,t 22,t 23,t 24,t 25,t 26,t 27,t 28,t 29,t 30,t 31,t 32,t 33,t 34,t 35,t 36,t 37,t 38,t 39,t 40,t 41,t 42,t 43,t 44,t 45,t 46,t 47,t 48,t 49,t 50,t 51,t 52,t 53,t 54,t 55,t 56,t 57,t 58,t 59]:=by subst b;exact Ik z v
 have L:t 4=.pointer (Nq x.Y):=by subst b;exact L
 have q:t 2=.pointer (Nq x.A):=by subst b;exact q
 have p:t 5=.pointer (Nq x.V):=by subst b;exact p
 have M:t 6=.pointer (Nq x.B):=by subst b;exact M
 have C:∀k,k<7->x.tmp0[k]?=Nq (t k):=by subst b;exact C
 have I:t 7=.int .i64 i:=by subst b;show z[7]?.getD NG=_;rw[I];rfl
 have n:t 8=.pointer (Nq s):=by subst b;show z[8]?.getD NG=_;rw[n];rfl
 have l:t 9=.pointer (Nq r):=by subst b;show z[9]?.getD NG=_;rw[l];rfl
 rw[O];refine KW 0 x.W1.heap.size t (x.w0.tp T) (wq.tp T) _ x.A x.V _ x.vv x.N i x.c x.wl s r x.gn x.gx q (jT o.nA (o.dj _ o.nA) o.hA rfl) (Gj (Q:=Ya) (jks:=x.jks) o.cas o.dj o.nab) p (jT o.nV (o.dj _ o.nV) o.hV rfl) (BX (Q:=Ya) (jks:=x.jks) o.ints o.dj o.nvv) I W n l X H G f j g P o.hwl ?_;intro _ _ _ _ _ _ _ _ _ _ _ _ _ _ _ _ _ _ _ _ _ _ _ _ w' y F D;refine⟨⟨rfl,rfl,λk U=>?_,Mu y,rfl⟩,s,r,rfl,rfl,F,D,f,j,g⟩;rw[C k U];obtain rfl | rfl | rfl | rfl | rfl | rfl | rfl:k=0\/k=1\/k=2\/k=3\/k=4\/k=5\/k=6:=by omega
 all_goals first | rfl | (rw[q];rfl) | (rw[p];rfl)
theorem Ok.wp9(h:x.Wk S Z a tm wq w){i:NA}(hi:i<x.N)(hb:x.Base i a wq)(P:x.Rows (ovr (x.c i) x.gn x.wl x.wl.length) (ovr (x.c i) x.gx x.wl x.wl.length) a wq)(T:NA->Qe->NA) :wR9.wp Ya (eT λa u=>x.Base i a u/\a.tmps[58]?=Nq (.bool (x.bad i))) a (wq.tp T):=by
 obtain⟨G,F,j,f,C,y,R,X,W⟩:=P;have e:=h.df;obtain⟨z,d⟩:=a;have e:d=[]:=e;subst e;have n:=o.capv h 4 x.Y (by omega) (by simp[tmp0,tm0]);have L:=o.capv h 2 x.A (by omega) (by simp[tmp0,tm0]);have I:=o.capv h 5 x.V (by omega) (by simp[tmp0,tm0]);have p:=o.capv h 6 x.B (by omega) (by simp[tmp0,tm0]);have v:=Hw h.sz h.cap;have q:z.size=60:=h.sz;have D:z[7]?=Nq (.int .i64 i):=hb.i7;have j:z[8]?=Nq (.pointer (Nq G)):=j;have f:z[9]?=Nq (.pointer (Nq F)):=f;have s:=GK T h.gr;have O:x.W1.heap.size<=(x.w0.tp T).heap.size:=Sv o.w0s.symm;generalize b:(λk:NA=>z[k]?.getD NG)=t;have M:z=#[t 0,t 1,t 2,t 3,t 4,t 5,t 6,t 7,t 8,t 9,t 10,t 11,t 12,t 13,t 14,t 15,t 16,t 17,t 18,t 19,t 20,t 21,t 22,t 23,t 24,t 25,t 26,t 27,t 28,t 29,t 30,t 31,t 32,t 33,t 34,t 35,t 36,t 37,t 38,t 39,t 40,t 41,t 42,t 43,t 44,t 45,t 46,t 47,t 48,t 49,t 50,t 51,t 52,t 53,t 54,t 55,t 56,t 57,t 58,t 59]:=by subst b;exact Ik z q
 have n:t 4=.pointer (Nq x.Y):=by subst b;exact n
 have L:t 2=.pointer (Nq x.A):=by subst b;exact L
 have I:t 5=.pointer (Nq x.V):=by subst b;exact I
 have p:t 6=.pointer (Nq x.B):=by subst b;exact p
 have v:∀k,k<7->x.tmp0[k]?=Nq (t k):=by subst b;exact v
 have D:t 7=.int .i64 i:=by subst b;show z[7]?.getD NG=_;rw[D];rfl
 have j:t 8=.pointer (Nq G):=by subst b;show z[8]?.getD NG=_;rw[j];rfl
 have f:t 9=.pointer (Nq F):=by subst b;show z[9]?.getD NG=_;rw[f];rfl
 rw[M];have H:∀(g:NA->NH),(∀d,0<=g d/\g d<=1000)->∀d,0<=ovr (x.c i) g x.wl x.wl.length d/\ovr (x.c i) g x.wl x.wl.length d<=1000:=λg s d=>by
  unfold ovr;split
  ·exact o.bc i d
  ·exact s d
 refine KU 0 x.W1.heap.size t (x.w0.tp T) (wq.tp T) _ x.Y x.B x.yb x.yc x.pv x.ps x.lim x.l G F _ _ n (jT o.nY (o.dj _ o.nY) o.hY rfl) (jT o.nY (o.dj _ o.nY) o.hY rfl) (BQ (Q:=Ya) (jks:=x.jks) o.pars o.dj o.nyb) p (jT o.nB (o.dj _ o.nB) o.hB rfl) (BX (Q:=Ya) (jks:=x.jks) o.intp o.dj o.npv) j f s C y O o.n5 o.hl o.ll (H _ o.bmn) (H _ o.bmx) ?_;intro _ _ _ _ _ _ _ _ _ _ w' r;refine⟨⟨rfl,rfl,λk U=>?_,yW h.gr r,by rw[<- D];rfl⟩,rfl⟩;rw[v k U];obtain rfl | rfl | rfl | rfl | rfl | rfl | rfl:k=0\/k=1\/k=2\/k=3\/k=4\/k=5\/k=6:=by omega
 all_goals first | rfl | (rw[n];rfl) | (rw[p];rfl)
theorem Ok.walk{c:Bs->NF->Nt->Prop}(hSo:∀S g w s,c S g w->c S { g with offers:=s } w){i:NA}(hi:i<x.N)(hc:x.Cm w)(h:x.Wk S Z a tm wq w)(h7:a.tmps[7]?=Nq (.int .i64 i))(hend:∀B ρ' l d p q,x.Cm q->x.Wk B ρ' l d p q->l.tmps[58]?=Nq (.bool (x.bad i))->az NV x.Fz x.cfg.K c B (G ((PD 139).at ⟨d,dn x.Wg⟩ (.code xh::.inBlock 1::dJ)) [bot]) q) :az NV x.Fz x.cfg.K c S (G ((PD 139).at ⟨tm,dn x.Wg⟩ (.code wX::.inBlock 1::dJ)) [bot]) w:=by
 rw[LU];refine az.seq kt ?_;refine o.piece hSo ck3 hc h (λT=>o.wp3 h h7 T) (λl u b=>⟨b.1.df,b.1.sz,b.1.cap,b.1.gr⟩) λV ρ1 R I D P f A k=>?_;refine az.seq kt ?_;refine o.piece hSo ck4 A k (λT=>o.wp4 k hi f.1 f.2 T) (λl u b=>⟨b.1.df,b.1.sz,b.1.cap,b.1.gr⟩) λU ρ2 Q H C O e z j=>?_;refine az.seq kt ?_;refine o.piece hSo ck9 z j (λT=>o.wp9 j hi e.1 e.2 T) (λl u b=>⟨b.1.df,b.1.sz,b.1.cap,b.1.gr⟩) λM ρ3 L r n F t y v=>?_;exact hend M ρ3 L r n F y v t.2
end
end Ph4
end Go.Proofs.YtidgnkmjgioapaaGreat
end
section
namespace Go.Proofs.YtidgnkmjgioapaaGreat
open Go Go.RowKit Go.Conc Go.ConcN Go.ConcN.Gen Go.Conc.Lib Go.ConcR.Gen Go.Co Go.Sim
namespace Ph4
section
variable{x:Ph4}
def cN(j:NA)(ls:NA->Lam):kh (j+1) ls=kh j ls+(if qd (ls j) then 1 else 0):=rfl
def El{j i:NA}{ls:NA->Lam}{l:Lam}(d:qd (ls i)=NC)(c:qd l=NC):kh j (Tv ls i l)=kh j ls:=by
 induction j with
 | zero=>rfl
 | succ j b=>
  rw[cN,cN];rw[b];by_cases e:j=i
  ·subst e;simp[Tv,d,c]
  ·simp[Tv,e]
def zx{j i:NA}{ls:NA->Lam}{l:Lam}(b:qd (ls i)=NC):kh j ls<=kh j (Tv ls i l):=by
 induction j with
 | zero=>exact Nv _
 | succ j c=>
  rw[cN,cN];by_cases e:j=i
  ·subst e;simp[b];omega
  ·simp[Tv,e];omega
def JK{j i:NA}{ls:NA->Lam}(g:i<j)(d:qd (ls i)=NC):kh j (Tv ls i .fn)=kh j ls+1:=by
 induction j with
 | zero=>omega
 | succ j c=>
  rw[cN,cN];by_cases e:j=i
  ·subst e;have:∀n,n<=j->kh n (Tv ls j .fn)=kh n ls:=by
    intro n f;induction n with
    | zero=>rfl
    | succ n b=>
     rw[cN,cN];rw[b (by omega)];simp[Tv,show n≠j by omega]
   rw[this j (Nv _),d,show qd (Tv ls j .fn j)=NB from by simp[Tv,qd]];simp
  ·rw[c (by omega)];simp[Tv,e];omega
def Ht{j:NA}{ls:NA->Lam}{l:Lam}(h:qd l=NC):kh (j+1) (Tv ls j l)=kh j ls:=by
 have:∀n,n<=j->kh n (Tv ls j l)=kh n ls:=by
  intro n c;induction n with
  | zero=>rfl
  | succ n b=>
   rw[cN,cN];rw[b (by omega)];simp[Tv,show n≠j by omega]
 rw[cN,this j (Nv _)];simp[Tv,h]
def hJ0:∀W j ls,x.J W j ls->x.J W (j+1) (Tv ls j .st):=by
 rintro W j ls ⟨q,p,n,l⟩;refine⟨by rw[Ht rfl];exact q,p,λg i f c=>?_,λk d b=>?_⟩
 ·rcases n g i f c with h | ⟨k,d,h⟩
  ·exact .inl h
  ·exact .inr ⟨k,by omega,by rw[show Tv ls j .st k=ls k from by simp[Tv,show k≠j by omega]];exact h⟩
 ·by_cases e:k=j
  ·subst e;simp[Tv] at b
  ·rw[show Tv ls j .st k=ls k from by simp[Tv,e]] at b;exact l k (by omega) b
def hJ:∀W j ls i γ' r,x.J W j ls->i<j->x.Tr W (ls i) γ' r->x.J γ' j (Tv ls i r):=by
 rintro W j ls i γ' r ⟨G,F,D,C⟩ B H;have v:∀k,k≠i->Tv ls i r k=ls k:=λk g=>by simp[Tv,g]
 have y:Tv ls i r i=r:=by simp[Tv]
 rcases H with⟨d,rfl,rfl⟩ | ⟨t,d,rfl,rfl⟩ | ⟨t,d,A,z,rfl,rfl⟩
 ·have c:qd (ls i)=NC:=by rcases d with h | ⟨t,h,_⟩<;>rw[h]<;>rfl
  refine⟨?_,F,λs u p q=>?_,λk g b=>?_⟩
  ·by_cases n:W.1<x.N
   ·simp only[n,if_true];omega
   ·simp only[n,if_false];rw[JK B c];omega
  ·by_cases e:u=W.1
   ·subst e;exact .inr ⟨i,B,.inl (by rw[y,if_pos p])⟩
   ·rcases D s u p (by have:u<W.1+1:=q;omega) with h | ⟨k,g,h⟩
    ·exact .inl h
    ·by_cases f:k=i
     ·subst f;rcases d with d | ⟨t,d,A⟩
      ·rw[d] at h;rcases h with h | h<;>cases h
      ·rw[d] at h;rcases h with h | h
       ·cases h
       ·cases h;exact .inl A
     ·exact .inr ⟨k,g,by rw[v k f];exact h⟩
  ·by_cases f:k=i
   ·subst f;rw[y] at b;by_cases n:W.1<x.N
    ·rw[if_pos n] at b;cases b
    ·exact .inr (by show x.N<=W.1+1;omega)
   ·rw[v k f] at b;exact(C k g b).imp id λh=>by show x.N<=W.1+1;omega
 ·have c:qd (ls i)=NC:=by rw[d];rfl
  refine⟨NM G (by have:=zx (j:=j) (l:=if γ'.2 then Lam.fn else .wk t) c;omega),F,λs u p q=>?_,λk g b=>?_⟩
  ·rcases D s u p q with h | ⟨k,g,h⟩
   ·exact .inl h
   ·refine .inr ⟨k,g,?_⟩;by_cases f:k=i
    ·subst f;rw[d] at h;rcases h with h | h
     ·cases h;rw[y,s];exact .inr rfl
     ·cases h
    ·rw[v k f];exact h
  ·by_cases f:k=i
   ·subst f;rw[y] at b;cases hg:γ'.2 with
    | true=>exact .inl rfl
    | false=>rw[hg] at b;cases b
   ·rw[v k f] at b;exact C k g b
 ·have c:qd (ls i)=NC:=by rw[d];rfl
  exact⟨by rw[El c rfl];exact G,λ_=>⟨t,z,A⟩,λs=>(by cases s),λk g b=>.inl rfl⟩
def hm:∀W l γ' c,x.Tr W l γ' c->x.m γ'+nu c<x.m W+nu l:=by
 rintro W l γ' c e;unfold m;rcases e with⟨f,rfl,rfl⟩ | ⟨d,rfl,rfl,rfl⟩ | ⟨d,rfl,j,g,rfl,rfl⟩
 ·have i:1<=nu l:=by rcases f with h | ⟨d,h,_⟩<;>rw[h]<;>simp[nu]
  show 3*(x.N - (W.1+1))+nu (if W.1<x.N then .ld W.1 else .fn)<3*(x.N - W.1)+nu l;by_cases b:W.1<x.N
  ·rw[if_pos b];show 3*(x.N - (W.1+1))+3<_;omega
  ·rw[if_neg b];show 3*(x.N - (W.1+1))+0<_;omega
 ·cases γ'.2<;>simp[nu]
 ·simp[nu]
def J.final{W:NA × OI}{ls:NA->Lam}(h:x.J W (min 4 x.N) ls)(f:∀i,i<min 4 x.N->fin (ls i)):W.2=NB↔∃i,i<x.N/\x.bad i=NB:=by
 obtain⟨p,n,l,j⟩:=h;refine⟨n,λ⟨i,e,g⟩=>?_⟩;have c:∀k,k<min 4 x.N->ls k=.fn:=λk d=>by
  have:=f k d;cases hl:ls k<;>rw[hl] at this<;>first | rfl | exact this.elim
 rcases j 0 (by omega) (c 0 (by omega)) with h | h
 ·exact h
 ·cases hg:W.2 with
  | true=>rfl
  | false=>
   rcases l hg i e (by omega) with b | ⟨k,d,b⟩
   ·rw[g] at b;cases b
   ·rw[c k d] at b;rcases b with b | b<;>cases b
def hSo{l:Lam}:∀S g w c,x.cfg.Stop l S g w->x.cfg.Stop l S { g with offers:=c } w:=by
 rintro S g w c ⟨k,j⟩;refine⟨k,?_⟩;rcases j with⟨d,n,e,r⟩ | ⟨d,f⟩
 ·exact .inl ⟨d,n,e,r⟩
 ·exact .inr ⟨d,λW i h=>f W i h⟩
variable(o:x.Ok){S:Bs}{w:Nt}{Z:Ren}{a:QF}{tm:NJ Ny}{wq:Nt}
include o in
theorem Ok.toA{l:Lam}(d:l=.st\/∃i,l=.wk i/\x.bad i=NC)(c:x.Cm w)(b:x.Wk S Z a tm wq w) :az NV x.Fz x.cfg.K (x.cfg.Stop l) S (G ((PD 139).at ⟨tm,dn x.Wg⟩ (.code wLB::dJ)) [bot]) w :=
 IZ kt (o.t1 b) λ_ h₁=>o.sync1 d (c.rely h₁) (b.rely c h₁)
def toE(c:x.Cm w)(tm:NJ Ny)(b:Nu Si):az NV x.Fz x.cfg.K (x.cfg.Stop .fn) S (G { (PD 139).at ⟨tm,dn x.Wg⟩ b with mode:=.returning } [bot]) w :=
 IW kt c.liv.1 (λ_ _ k=>k.1) (λ_ _ h=>⟨h.1,.inl ⟨trivial,h.2⟩⟩) tm b
include o in
theorem Ok.hW:∀l S g w,x.WA l S g w->az NV x.Fz x.cfg.K (x.cfg.Stop l) S g w:=by
 letI:JunkSet:=x.js
 rintro l S g w ⟨d,h⟩;have q:x.A<w.heap.size:=NX (o.ndlt o.nA) d.size;cases l with
 | st=>
  rcases h with⟨rfl,v⟩ | ⟨Z,a,tm,wq,b,rfl⟩
  ·exact Ao kt (o.toA (.inl rfl) d (o.born d v))
  ·exact IX kt (o.toA (.inl rfl) d (b.set 59 (by omega) (gR _)))
 | ld i=>
  obtain⟨p,Z,a,tm,wq,b,rfl⟩:=h;refine IY (av:=NG) kt b.tsz (o.t2 b) (o.t3 b) (λw₁ h₁=>o.cellA (d.rely h₁)) (o.fz o.nA) q p (by have:=o.hN;omega) (λw₁ h₁=>?_);have r:=b.rely d h₁;have f:=(((((((r.set 12 (by omega) (.int .i64 (i+1))).set 13 (by omega) (.int .i64 i)).set 7 (by omega) (.int .i64 i)).set 14 (by omega) (.int .i64 i)).set 15 (by omega) (o.vrA.mono b.le)).set 16 (by omega) (.int .i64 x.N)).set 17 (by omega) (.bool NC)).set 18 (by omega) (.bool NC);exact o.sync2 p (d.rely h₁) f (by simp[OW,b.sz]) (by simp[OW,b.sz])
 | wk i=>
  obtain⟨p,Z,a,tm,wq,b,y,k,rfl⟩:=h;refine FL kt b.tsz (b.bool k) ?_;have f:=(b.set 19 (by omega) (.bool NC)).set 20 (by omega) (.bool NC);refine o.walk hSo p d f (by simp[OW,y]) λF ρ' D u s C j c e=>?_;cases hb:x.bad i with
  | false=>
   rw[hb] at e;exact IV kt c.tsz (c.bool e) (o.toA (.inr ⟨i,rfl,hb⟩) j c)
  | true=>
   rw[hb] at e;exact IU kt (λw n=>⟨id,id⟩) c.tsz (o.t3 c) (c.bool e) λw₁ h₁=>o.sync3 p hb (j.rely h₁) (c.rely j h₁)
 | fn=>
  obtain⟨Z,a,tm,wq,b,⟨i,B,z,rfl⟩ | ⟨k,rfl⟩⟩:=h
  ·exact FM kt b.tsz (o.t2 b) (λw₁ h₁=>o.cellA (d.rely h₁)) (o.fz o.nA) q B z (toE d)
  ·exact FK kt b.tsz (b.bool k) (toE d)
include o in
theorem Ok.cfg(hAr:∀g w,x.AnchW g w->g.status=.running)(hAn:∀g w,x.AnchW g w->∃m,x.cfg.GM x.cfg.AtW1 m g w)(hFin:∀W ls g w,x.Fin g w->x.J W (min 4 x.N) ls->(∀i,i<min 4 x.N->fin (ls i))->x.DataAt W w->x.cfg.Ph w->E NV x.Post (flat x.clA) g w):x.cfg.Ok where
 hn:=by show min 4 x.N<2147483648;omega
 hlo:=o.hlo
 dat:=λW w e h d=>⟨(h _ (.inl rfl)).t d.1,(h _ (.inr rfl)).t d.2⟩
 fzc:=λb c=>⟨c.2,c.1⟩
 syc:=λb c=>by
  have:b∈x.jks:=by rcases c with rfl | rfl<;>simp[jks]
  exact⟨o.sync b this,o.jlt b this⟩
 cla0:=o.cla0
 wgc:=⟨o.sync _ (by simp[Ph4.cfg,jks]),o.jlt _ (by simp[Ph4.cfg,jks]),λh=>h.elim o.ne2 o.ne3⟩
 hW:=o.hW
 hJ0:=hJ0
 hJ:=hJ
 hm:=hm
 hAr:=hAr
 hAn:=hAn
 hFin:=hFin
end
end Ph4
end Go.Proofs.YtidgnkmjgioapaaGreat
end
namespace Go.Proofs.YtidgnkmjgioapaaGreat
section
open Go Go.RowKit Go.Conc Go.ConcN Go.ConcN.Gen Go.Conc.Lib Go.ConcR.Gen Go.Co Go.Sim
def lx{i:NA->Cl}{A o a:NA}{wr:OI}(h:i A=.mine 0)(j:A<a):EvG i a 0 ⟨.cell ⟨A,o,Ns⟩,wr,Mode.plain == Mode.atomic⟩/\dM ⟨.cell ⟨A,o,Ns⟩,wr,Mode.plain == Mode.atomic⟩:=by
 refine⟨λx f b g=>?_,by simp[dM],by simp,by simp⟩;have d:x=⟨.cell ⟨A,o,Ns⟩,wr,.plain⟩:=by
  have e:(Mode.plain == Mode.atomic)=NC:=by decide
  rw[e] at f;cases wr<;>(simp[PG,Qr] at f;exact f.symm)
 subst d;simp only[Go.Co.blk,OM] at g;subst g;exact⟨j,.inl ⟨h,rfl⟩⟩
def lV{w:Nt}{b o d:NA}{a:NJ Ny}{e:NZ}{f:NA × NA}{v:Ny}(h:w.heap[b]?=Nq (.cells a e f))(g:a[o]?=Nq v):(w.at d).cell? ⟨b,o,Ns⟩=Nq v:=aa (w:=w.at d) h g
structure Nw(w w1:Nt)(B:NA)(c:NJ Ny)(e:NZ):Prop where
 eq:w1=w.alloc (.cells c e)
 at_:B=w.heap.size
section
variable{w w1:Nt}{B:NA}{c:NJ Ny}{e:NZ}
def nw(w:Nt)(c:NJ Ny)(e:NZ):∃B w1,Nw w w1 B c e:=⟨_,_,⟨rfl,rfl⟩⟩
def Nw.size(h:Nw w w1 B c e):w1.heap.size=w.heap.size+1:=by rw[h.eq];simp
def Nw.le(h:Nw w w1 B c e):w.heap.size<=w1.heap.size:=by rw[h.size];omega
def Nw.lt(h:Nw w w1 B c e):B<w1.heap.size:=by rw[h.size,h.at_];omega
def Nw.new(h:Nw w w1 B c e):w1.heap[B]?=Nq (.cells c e (0,0)):=by
 rw[h.eq,h.at_];unfold j8;exact Array.getElem?_push_size
def Nw.old(h:Nw w w1 B c e){b:NA}(a:b<w.heap.size):w1.heap[b]?=w.heap[b]?:=by
 rw[h.eq];simp only[j8,Sr];rw[if_neg (by omega)]
def Nw.os(h:Nw w w1 B c e):w1.os=w.os:=by rw[h.eq];rfl
def Nw.output(h:Nw w w1 B c e):w1.output=w.output:=by rw[h.eq];rfl
end
def Ng(N:NA):(if(N:NH)<4 then(N:NH) else 4)=((min 4 N:NA):NH):=by split<;>omega
def Lt(N:NA)(w:Nt)(P:NR):(VD #[3,3] 3 #[.int .i64 4,N]).events P w #[]=#[]:=by
 simp[go_sem,VD,XZ]
def se{P:NR}{w:Nt}{a:NJ Pz}{d:OX}{b:NO OX}{l c:NA}:(Go.store d (.slice b l c)).events P w a=storedEv P w a d (.slice b l c) .plain:=events_store P w a d _ .plain rfl
structure At5(Q:NR)[JunkSet](M:NA)(w:Nt)(cl:NA->Cl)(Z:Ren)(yb pb vb ab:NO OX)(n yc pn pc vn vc N ac:NA)(lim:NH)(Y B V A Nx Fd Wg:NA)(O:Ren)(wq:Nt)(w5:Nt)(cl5:NA->Cl):Prop where
 wr:WR Q M O wq w5
 ln:M<=O.length
 le:Le Z O
 fr:∀i j,BR O i j->BR Z i j\/w.heap.size<=j
 own:iw cl5 O
 kp:gh M 0 w O w5
 c0:∀b,w5.heap.size<=b->cl5 b=.mine 0
 cold:∀b,b<w.heap.size->cl5 b=cl b
 hY:w5.heap[Y]?=Nq (.cells #[.slice yb n yc,lim] 91 (0,0))
 hB:w5.heap[B]?=Nq (.cells #[.slice pb pn pc] 29 (0,0))
 hV:w5.heap[V]?=Nq (.cells #[.slice vb vn vc] 29 (0,0))
 hA:w5.heap[A]?=Nq (.cells #[.slice ab N ac] 152 (0,0))
 hNx:w5.heap[Nx]?=Nq (.cells #[.int .i64 0] 158 (0,0))
 hFd:w5.heap[Fd]?=Nq (.cells #[.int .u32 0] 161 (0,0))
 hWg:w5.heap[Wg]?=Nq (.cells #[.int .u64 0,.int .u32 0] 166 (0,0))
 cY:cl5 Y=.mine 0
 cB:cl5 B=.mine 0
 cV:cl5 V=.mine 0
 cA:cl5 A=.mine 0
 cNx:cl5 Nx=.sync
 cFd:cl5 Fd=.sync
 cWg:cl5 Wg=.sync
 l1:w.heap.size<=Nx
 l2:Nx<Fd
 l3:Fd<Wg
noncomputable def x85:Qs:=sqB (sqB (sqB (sqB (sqB (Tryz.f85.body.getD .skip)))))
noncomputable def lg:Qs:=sqB (sqA x85)
noncomputable def kC:Qs:=sqB x85
def KD(i t o q:NO OX)(n h r s k l N p:NA)(a:NH)(Y B V A v x u:NA)(j:NH)(g f d b:Ny):NJ Ny :=
 #[.agg #[.slice i n h,a],.slice t r s,.slice o k l,.pointer (Nq Y),.pointer (Nq B),.pointer (Nq V),.bool NC,.pointer (Nq A),.pointer (Nq v),.pointer (Nq x),.pointer (Nq u),.agg #[.slice i n h,a],.slice o k l,.slice q N p,.slice q N p,N,.int .i64 (min 4 N:NA),j,g,f,d,b,NG,NG]
def LS[JunkSet]{M:NA}(D:Two Ya NV)(s1:JunkSet.okf 137){Rc:Ny->Nt->Prop}{yq vq:Ny}{wq:Nt}{Z:Ren}{e6:Ny->Nt->Prop}{p:NA->Cl}{cs:Nu NS}{w:Nt}{yb pb vb:NO OX}{n yc pn pc vn vc:NA}{C:NH}(S:∀b,w.heap.size<=b->p b=.mine 0)(n4:M<=Z.length)(hw:WR Ya M Z wq w)(hG:Gl NV Z)(m9:iw p Z)(hy:VR Z yq (.agg #[.slice yb n yc,C]))(hv:VR Z vq (.slice vb vn vc))(p3:∀i,¬ JunkSet.jk i)(p4:∀T,Oz Ya 137 #[yq,vq] (wq.tp T) λe u=>∃v,e=.returned v/\Rc v u)(r9:∀v u,Rc v u->∃b N c,v=.slice b N c)(X:∀O b6 v Y B V A Nx Fd Wg W N U w5 q1,Rc v b6->VR O v (.slice W N U)->At5 Ya M w p Z yb pb vb W n yc pn pc vn vc N U C Y B V A Nx Fd Wg O b6 w5 q1 ->EE NV e6 q1 (G ((Oq 85).at ⟨KD yb pb vb W n yc pn pc vn vc N U C Y B V A Nx Fd Wg 0 NG undef undef undef,[]⟩ [.code lg,.code kC]) cs) w5) :EE NV e6 p (G ((Oq 85).at ⟨#[.agg #[.slice yb n yc,C],.slice pb pn pc,.slice vb vn vc]++OY 21 NG,[]⟩ [.code (Tryz.f85.body.getD .skip)]) cs) w:=by
 simp only[lg,kC,x85,KD] at X;simp only[RX,NK,sqA,sqB,inn] at X ⊢;refine EE.seq ?_;refine EE.region ?_;simp only[Ox,NQ,NU,Oh,Oc,Oo,Pf];have⟨Y,w1,a⟩:=nw w #[.slice yb n yc,C] 91;refine EE.op (.pointer (Nq ⟨Y,0,Ns⟩)) w1 p rfl rfl (by k_ne) (λd=>by rw[a.eq,a.at_];go_simp;exact⟨rfl,rfl⟩) (λd=>by simp[go_sem]) a.le (λ_ _=>rfl) (λb o=>S b (by have:=a.size;omega)) ?_;walk_nrm;have⟨B,w2,f⟩:=nw w1 #[.slice pb pn pc] 29;refine EE.op (.pointer (Nq ⟨B,0,Ns⟩)) w2 p rfl rfl (by k_ne) (λd=>by rw[f.eq,f.at_];go_simp;exact⟨rfl,rfl⟩) (λd=>by simp[go_sem]) f.le (λ_ _=>rfl) (λb o=>S b (by have:=a.size;have:=f.size;omega)) ?_;walk_nrm;have⟨V,q,k⟩:=nw w2 #[.slice vb vn vc] 29;have d5:∀b,q.heap.size<=b->p b=.mine 0:=λb o=>S b (by have:=a.size;have:=f.size;have:=k.size;omega);refine EE.op (.pointer (Nq ⟨V,0,Ns⟩)) q p rfl rfl (by k_ne) (λd=>by rw[k.eq,k.at_];go_simp;exact⟨rfl,rfl⟩) (λd=>by simp[go_sem]) k.le (λ_ _=>rfl) d5 ?_;walk_nrm;refine EE.value (.bool NC) rfl rfl (by k_ne) (λ_=>by go_simp) (λ_=>by simp[go_sem]) ?_;walk_nrm;refine EE.region_end ?_;refine EE.seq ?_;refine EE.region ?_;simp only[Ox,NQ,NU,Oh,Oc,Oo,Pf];have hY:q.heap[Y]?=Nq (.cells #[.slice yb n yc,C] 91 (0,0)):=by
  rw[k.old (NX a.lt f.le),f.old a.lt];exact a.new
 have hB:q.heap[B]?=Nq (.cells #[.slice pb pn pc] 29 (0,0)):=by
  rw[k.old f.lt];exact f.new
 have hV:=k.new;have cY:p Y=.mine 0:=S _ (by rw[a.at_];omega);have cB:p B=.mine 0:=S _ (by rw[f.at_];exact a.le);have cV:p V=.mine 0:=S _ (by rw[k.at_];exact NM a.le f.le);have sY:Y<q.heap.size:=NX a.lt (NM f.le k.le);have sB:B<q.heap.size:=NX f.lt k.le;have sV:V<q.heap.size:=k.lt;have s7:∀d,(q.at d).cell? ⟨Y,0,Ns⟩=Nq (.slice yb n yc):=λd=>lV hY rfl;have s5:∀d,(q.at d).cell? ⟨Y,1,Ns⟩=Nq (.int .i64 C):=λd=>lV hY rfl;have t1:∀d,(q.at d).cell? ⟨V,0,Ns⟩=Nq (.slice vb vn vc):=λd=>lV hV rfl;refine EE.op (.agg #[.slice yb n yc,C]) q p rfl rfl (by k_ne) (λd=>by go_simp) (λd e Q=>by
  simp[go_sem,s7,s5] at Q;rcases Q with rfl | rfl
  ·exact lx cY sY
  ·exact lx cY sY) (Nv _) (λ_ _=>rfl) d5 ?_
 walk_nrm;refine EE.op (.slice vb vn vc) q p rfl rfl (by k_ne) (λd=>by go_simp) (λd e Q=>by
  simp[go_sem,t1] at Q;rw[Q];exact lx cV sV) (Nv _) (λ_ _=>rfl) d5 ?_
 walk_nrm;refine EE.enter rfl rfl (by k_ne) rfl Tryz.func137 (by kernel_rfl) rfl ?_;walk_nrm;have r8:WR Ya M Z wq q:=hw.rely (NM a.le (NM f.le k.le)) (by rw[k.os,f.os,a.os]) (λi j H _=>by
  have hj:=hw.lt i j H;rw[k.old (NX hj (NM a.le f.le)),f.old (NX hj a.le),a.old hj]) (λi j _ h=>absurd h (p3 i))
 have nY:∀i,¬ BR Z i Y:=λi h=>by have:=hw.lt _ _ h;rw[a.at_] at this;omega
 have nB:∀i,¬ BR Z i B:=λi h=>by have:=hw.lt _ _ h;have:=a.le;rw[f.at_] at *;omega
 have nV:∀i,¬ BR Z i V:=λi h=>by have:=hw.lt _ _ h;have:=a.le;have:=f.le;rw[k.at_] at *;omega
 refine EE.call D (R:=Rc) s1 (bG 137 (by decide)) (aq:=#[yq,vq]) (Z:=Z) (wq:=wq) ?_ n4 r8 hG p4 rfl rfl m9 d5 ?_
 ·refine⟨rfl,λi x y hx m6=>?_⟩;have hi:i<2:=by
   have:=(Nz.1 hx).1;simpa using this
  obtain rfl | rfl:i=0\/i=1:=by omega
  ·cases hx;cases m6;exact hy
  ·cases hx;cases m6;exact hv
 intro O b6 v v' w4 p6 m8 g9 n6 c3 h8 p5 l;obtain⟨q9,N,U,rfl⟩:=r9 _ _ p6;obtain⟨W,rfl⟩:∃W,v'=.slice W N U:=by cases m8<;>exact⟨_,rfl⟩
 have fY:∀i,¬ BR O i Y:=λi h=>(c3 i Y h).elim (nY i) (by omega);have fB:∀i,¬ BR O i B:=λi h=>(c3 i B h).elim (nB i) (by omega);have fV:∀i,¬ BR O i V:=λi h=>(c3 i V h).elim (nV i) (by omega);have s3:=(l.old Y sY λi h=>absurd h (fY i)).t hY;have t2:=(l.old B sB λi h=>absurd h (fB i)).t hB;have s9:=(l.old V sV λi h=>absurd h (fV i)).t hV;rw[Qw];walk_nrm;have⟨A,w5,P⟩:=nw w4 #[.slice Ns 0 0] 152;have k6:∀b,w5.heap.size<=b->p b=.mine 0:=λb o=>p5 b (NM P.le o);refine EE.op (.pointer (Nq ⟨A,0,Ns⟩)) w5 p rfl rfl (by k_ne) (λd=>by rw[P.eq,P.at_];go_simp;exact⟨rfl,rfl⟩) (λd=>by simp[go_sem]) P.le (λ_ _=>rfl) k6 ?_;walk_nrm;have cA:p A=.mine 0:=p5 _ (by rw[P.at_];omega);have d6:=P.new;have q0:∀d,(w5.at d).cell? ⟨A,0,Ns⟩=Nq (.slice Ns 0 0):=λd=>lV d6 rfl;have p7:∀d,(w5.at d).frozen? ⟨A,0,Ns⟩=NC:=λd=>lp (w:=w5.at d) d6;obtain⟨L,F⟩:∃L,L=w5.setCell ⟨A,0,Ns⟩ (.slice W N U):=⟨_,rfl⟩;have s6:L.heap.size=w5.heap.size:=by rw[F];simp
 refine EE.store L rfl rfl (by k_ne) (λd=>by rw[F];clear F;go_simp;rfl) (λd e Q=>by
  simp[go_sem] at Q;rw[se] at Q;simp[storedEv,q0,p7] at Q;rw[Q];exact lx cA (by rw[s6];exact P.lt)) s6 k6 ?_
 walk_nrm;have t3:L.heap[A]?=Nq (.cells #[.slice W N U] 152 (0,0)):=by
  rw[F,VW _ _ _ _ _ _ d6];simp
 have m5:∀b,b<w4.heap.size->L.heap[b]?=w4.heap[b]?:=λb o=>by
  rw[F,RJ _ _ _ _ (by rw[P.at_];show b≠w4.heap.size;omega)];exact P.old o
 have m4:L.os=w4.os:=by rw[F];exact P.os
 have r5:L.output=w4.output:=by rw[F];exact P.output
 have s2:∀b,L.heap.size<=b->p b=.mine 0:=λb o=>k6 b (by omega);have s4:w4.heap.size<=L.heap.size:=by rw[s6];exact P.le
 have r4:A<L.heap.size:=by rw[s6];exact P.lt
 clear F q0 p7 d6 s6;refine EE.region_end ?_;refine EE.seq ?_;refine EE.region ?_;simp only[Ox,NQ,NU,Oh,Oc,Oo,Pf];have⟨Nx,w7,z⟩:=nw L #[.int .i64 0] 158;obtain⟨c7,k5⟩:∃c7:NA->Cl,c7=λb=>if b=Nx then .sync else p b:=⟨_,rfl⟩;have a7:∀b,b<L.heap.size->c7 b=p b:=λb o=>by rw[k5];simp only;rw[if_neg (by rw[z.at_];omega)]
 have b7:∀b,w7.heap.size<=b->c7 b=.mine 0:=λb o=>by rw[k5];simp only;rw[if_neg (by have:=z.lt;omega)];exact s2 b (NM z.le o)
 refine EE.op (.pointer (Nq ⟨Nx,0,Ns⟩)) w7 c7 rfl rfl (by k_ne) (λd=>by rw[z.eq,z.at_];go_simp;exact⟨rfl,rfl⟩) (λd=>by simp[go_sem]) z.le a7 b7 ?_;walk_nrm;refine EE.region_end ?_;refine EE.seq ?_;refine EE.region ?_;simp only[Ox,NQ,NU,Oh,Oc,Oo,Pf];have⟨Fd,w8,r⟩:=nw w7 #[.int .u32 0] 161;obtain⟨c8,k0⟩:∃c8:NA->Cl,c8=λb=>if b=Fd then .sync else c7 b:=⟨_,rfl⟩;have a8:∀b,b<w7.heap.size->c8 b=c7 b:=λb o=>by rw[k0];simp only;rw[if_neg (by rw[r.at_];omega)]
 have b8:∀b,w8.heap.size<=b->c8 b=.mine 0:=λb o=>by rw[k0];simp only;rw[if_neg (by have:=r.lt;omega)];exact b7 b (NM r.le o)
 refine EE.op (.pointer (Nq ⟨Fd,0,Ns⟩)) w8 c8 rfl rfl (by k_ne) (λd=>by rw[r.eq,r.at_];go_simp;exact⟨rfl,rfl⟩) (λd=>by simp[go_sem]) r.le a8 b8 ?_;walk_nrm;refine EE.region_end ?_;refine EE.seq ?_;refine EE.region ?_;simp only[Ox,NQ,NU,Oh,Oc,Oo,Pf];have⟨Wg,w9,I⟩:=nw w8 #[.int .u64 0,.int .u32 0] 166;obtain⟨c9,h9⟩:∃c9:NA->Cl,c9=λb=>if b=Wg then .sync else c8 b:=⟨_,rfl⟩;have a9:∀b,b<w8.heap.size->c9 b=c8 b:=λb o=>by rw[h9];simp only;rw[if_neg (by rw[I.at_];omega)]
 have b9:∀b,w9.heap.size<=b->c9 b=.mine 0:=λb o=>by rw[h9];simp only;rw[if_neg (by have:=I.lt;omega)];exact b8 b (NM I.le o)
 refine EE.op (.pointer (Nq ⟨Wg,0,Ns⟩)) w9 c9 rfl rfl (by k_ne) (λd=>by rw[I.eq,I.at_];go_simp;exact⟨rfl,rfl⟩) (λd=>by simp[go_sem]) I.le a9 b9 ?_;walk_nrm;have e7:=z.le;have e8:=r.le;have e9:=I.le;have s:∀b,b<w4.heap.size->w9.heap[b]?=w4.heap[b]?:=λb o=>by
  rw[I.old (by omega),r.old (by omega),z.old (by omega)];exact m5 b o
 have g:∀b,b<L.heap.size->c9 b=p b:=λb o=>by rw[a9 b (by omega),a8 b (by omega),a7 b o]
 have p9:w9.heap[A]?=Nq (.cells #[.slice W N U] 152 (0,0)):=by
  rw[I.old (by omega),r.old (by omega),z.old (by omega)];exact t3
 refine EE.region_end ?_;refine EE.seq ?_;refine EE.seq ?_;refine EE.region ?_;simp only[Ox,NQ,NU,Oh,Oc,Oo,Pf];have p8:∀d,(w9.at d).cell? ⟨A,0,Ns⟩=Nq (.slice W N U):=λd=>lV p9 rfl;have q2:c9 A=.mine 0:=(g A r4).t cA;have r6:A<w9.heap.size:=by omega
 refine EE.op (.slice W N U) w9 c9 rfl rfl (by k_ne) (λd=>by go_simp) (λd e Q=>by
  simp[go_sem,p8] at Q;rw[Q];exact lx q2 r6) (Nv _) (λ_ _=>rfl) b9 ?_
 walk_nrm;refine EE.value (.int .i64 N) rfl rfl (by k_ne) (λ_=>by go_simp) (λ_=>by simp[go_sem]) ?_;walk_nrm;refine EE.value (.int .i64 (min 4 N:NA)) rfl rfl (by k_ne) (λ_=>by go_simp;rw[Ng]) (λ_=>by simp[go_sem];exact Lt _ _ _) ?_;walk_nrm;refine EE.value (.int .i64 0) rfl rfl (by k_ne) (λ_=>by go_simp) (λ_=>by simp[go_sem]) ?_;walk_nrm;refine EE.region_end ?_;have f4:∀{b:NA},b<q.heap.size->b<w4.heap.size:=λh=>NX h l.size;refine X O b6 (.slice q9 N U) Y B V A Nx Fd Wg W N U w9 c9 p6 m8 ⟨?_,NM n4 n6.len,n6,λi j H=>(c3 i j H).imp id λh=>NM (NM a.le (NM f.le k.le)) h,?_,⟨?_,?_,?_,?_,λ_ _ _ _=>OE _,OE _⟩,b9,?_,?_,?_,?_,p9,?_,?_,I.new,?_,?_,?_,q2,?_,?_,?_,?_,?_,?_⟩
 ·-- wr
  refine g9.rely (by omega) ?_ (λi j H _=>s j (g9.lt i j H)) (λi j _ h=>absurd h (p3 i));rw[I.os,r.os,z.os,m4]
 ·-- own
  intro i j H;have hj:=g9.lt i j H;rw[g j (by omega)];exact h8 i j H
 ·-- keep
  intro j hj hn;have h1:w.heap.size<=q.heap.size:=NM a.le (NM f.le k.le);have h2:=l.size;rw[s j (by omega),l.old j (by omega) hn,k.old (NX hj (NM a.le f.le)),f.old (NX hj a.le),a.old hj]
 ·rw[I.os,r.os,z.os,m4,l.os,k.os,f.os,a.os]
 ·rw[I.output,r.output,z.output,r5,l.output,k.output,f.output,a.output]
 ·have h1:w.heap.size<=q.heap.size:=NM a.le (NM f.le k.le);have h2:=l.size;omega
 ·intro b o;have h1:w.heap.size<=q.heap.size:=NM a.le (NM f.le k.le);have h2:=l.size;exact g b (by omega)
 ·exact(s Y (f4 sY)).t s3
 ·exact(s B (f4 sB)).t t2
 ·exact(s V (f4 sV)).t s9
 ·have:=z.lt;rw[I.old (by omega),r.old (by omega)];exact z.new
 ·have:=r.lt;rw[I.old (by omega)];exact r.new
 ·have:=f4 sY;rw[g Y (by omega)];exact cY
 ·have:=f4 sB;rw[g B (by omega)];exact cB
 ·have:=f4 sV;rw[g V (by omega)];exact cV
 ·have:=z.lt;rw[a9 Nx (by omega),a8 Nx (by omega),k5];simp
 ·have:=r.lt;rw[a9 Fd (by omega),k0];simp
 ·rw[h9];simp
 ·have h1:w.heap.size<=q.heap.size:=NM a.le (NM f.le k.le);have h2:=l.size;rw[z.at_];omega
 ·have:=z.lt;rw[r.at_];omega
 ·have:=r.lt;rw[I.at_];omega
end
section
open Go Go.RowKit Go.Conc Go.ConcN Go.ConcN.Gen Go.Conc.Lib Go.ConcR.Gen Go.Co Go.Sim
def KS{U X:Type}{C:Cfg U X}{b:NF->Nt->Prop}{a m:NA}{g:NF}{w:Nt}(h:TO C.P NB (LR C.ty C.Wg) UN (λg w=>C.GM b m g w) a g w):C.GM b (a+m) g w :=
 Cfg.GM.trans (Cfg.GM.of h λ_ _ h=>h)
noncomputable def fw:Qs:=inn (inn lg)
noncomputable def rK:Nu Si:=[.inLoop fw,.inBlock 0,.code kC]
def tx(x:Ph4):Ny:=.func (.func 139) #[] (dO x.Wg x.Nx x.A x.Fd x.Y x.V x.B)
def tmx(x:Ph4)(j:NA)(a b c d e:Ny):NJ Ny :=
 #[.agg #[.slice x.yb x.ps.length x.yc,x.lim],x.pv,x.vv,.pointer (Nq x.Y),.pointer (Nq x.B),.pointer (Nq x.V),.bool NC,.pointer (Nq x.A),.pointer (Nq x.Nx),.pointer (Nq x.Fd),.pointer (Nq x.Wg),.agg #[.slice x.yb x.ps.length x.yc,x.lim],x.vv,.slice x.ab x.N x.ac,.slice x.ab x.N x.ac,x.N,.int .i64 (min 4 x.N:NA),j,a,b,c,d,e,NG]
def z18(j:NA):Ny:=if j=0 then NG else .bool NB
def z19(j:NA):Ny:=if j=0 then NG else .tuple #[]
def z20(x:Ph4)(j:NA):Ny:=if j=0 then NG else tx x
def z21(j:NA):Ny:=if j=0 then NG else .int .i64 j
def LO(j:NA):z18 (j+1)=.bool NB:=by simp[z18]
def LN(j:NA):z19 (j+1)=.tuple #[]:=by simp[z19]
def LM(x:Ph4)(j:NA):z20 x (j+1)=tx x:=by simp[z20]
def LK(j:NA):z21 (j+1)=.int .i64 (j+1:NA):=by simp[z21]
noncomputable def yS(x:Ph4)(cs:Nu NS)(j:NA):NF:=G ((Oq 85).at ⟨tmx x j (z18 j) (z19 j) (z20 x j) (z21 j) NG,[]⟩ (.code fw::rK)) cs
section
variable{x:Ph4}{cs:Nu NS}
def tV{b:NF->Nt->Prop}{m:NA}{j:NA}(d:j<4)(h:∀w,QO 166 x.Wg w->x.cfg.GM b m (yS x cs (j+1)) w)(w:Nt)(a:QO 166 x.Wg w) :x.cfg.GM b (7+m) (G ((Oq 85).at ⟨tmx x j (.bool NB) (.tuple #[]) (tx x) (z21 j) NG,[]⟩ (.inRegion (aY (sqB (inn (sqA (sqB (sqB fw)))))) []::.inBlock 1::.code (sqB (sqB (sqB fw)))::rK)) cs) w:=by
 refine KS ?_;simp only[yS,rK,fw,lg,kC,x85,RX,NK,sqA,sqB,inn,aY,tmx] at h ⊢;have c:IntKind.i64.wrap ((j:NH)+1)=j+1:=Ov _ (by omega);u_c NI af a;u_c stepG_inBlock af a;u_reg af a;u_op af a;u_op af a;u_c NI af a;u_c stepG_inLoop af a;refine Qh (λw₁ h₁=>?_);have e:=h w₁ (af a h₁);simp only[LO,LN,LM,LK,Int.natCast_add,Int.cast_ofNat_Int] at e;exact e
noncomputable def Js(x:Ph4)(cs:Nu NS)(j:NA):NF:=G ((Oq 85).at ⟨tmx x j (.bool NB) (.tuple #[]) (z20 x j) (z21 j) NG,[]⟩ (.inRegion (aY (sqA (inn (sqA (sqB (sqB fw)))))) []::.code (sqB (inn (sqA (sqB (sqB fw)))))::.inBlock 1::.code (sqB (sqB (sqB fw)))::rK)) cs
def Fi{S:NF->Nt->Prop}{N j:NA}(c:j<min 4 x.N)(h:∀w,QO 166 x.Wg w->x.cfg.GM (x.cfg.AtGoS S) N (Js x cs j) w)(w:Nt)(a:QO 166 x.Wg w):x.cfg.GM (x.cfg.AtKdS S) 24 (yS x cs j) w:=by
 refine Cfg.add_spawn (N:=N) ?_;have b:decide ((j:NH)<((min 4 x.N:NA):NH))=NB:=decide_eq_true (by omega);simp only[Js,yS,rK,fw,lg,kC,x85,RX,NK,sqA,sqB,inn,aY,tmx] at h ⊢;u_c Ob af a;u_reg af a;u_op af a;u_c NI af a;u_c Ob af a;u_cond NB af a;u_c Px af a;u_c Ob af a;u_c UD af a;u_c Ob af a;u_reg af a;u_in af a;refine goes_call rfl rfl (by k_ne) rfl qG.f_add (nm_add link) rfl ⟨by u_nil,?_⟩
 walk_nrmf addFn
 exact addPos (L:=link) qG h _ a
noncomputable def Ll(x:Ph4)(cs:Nu NS)(j:NA):NF:=G ((Oq 85).at ⟨tmx x j (.bool NB) (.tuple #[]) (tx x) (z21 j) NG,[]⟩ (.inRegion (aY (sqB (inn (sqA (sqB (sqB fw)))))) []::.inBlock 1::.code (sqB (sqB (sqB fw)))::rK)) cs
def IM{S:NF->Nt->Prop}{j:NA}(h:∀w,QO 166 x.Wg w->S (Ll x cs j) w)(w:Nt)(e:QO 166 x.Wg w):x.cfg.GM (x.cfg.AtGoS S) (3+0) (Js x cs j) w:=by
 refine Cfg.GM.of (C:=x.cfg) (Stop:=x.cfg.AtGoS S) ?_ (λ_ _ h=>h);simp only[Ll,Js,rK,fw,lg,kC,x85,RX,NK,sqA,sqB,inn,aY,tmx] at h ⊢;u_c NI af e;u_reg af e;u_op af e;refine Qh (λw₁ h₁=>?_);replace e:=af e h₁;refine⟨rfl,_,born NV (tJ x.Wg x.Nx x.A x.Fd x.Y x.V x.B),?_,?_,h _ e⟩
 ·have l:=stepG_spawn (P:=NV) (main:=NB) (w:=w₁) (w':=w₁) (b:=Oq 85) (cs:=cs) (i:=1) (rest:=[]) (d:=tJ x.Wg x.Nx x.A x.Fd x.Y x.V x.B) (f:=.func 139) (c:=dO x.Wg x.Nx x.A x.Fd x.Y x.V x.B)
   (ops:=(aY (sqB (inn (sqA (sqB (sqB fw))))))) (o:=(aY (sqB (inn (sqA (sqB (sqB fw))))))[1]'(by simp only[fw,lg,x85,RX,NK,sqA,sqB,inn,aY];decide)) (a:=⟨tmx x j (.bool NB) (.tuple #[]) (tx x) (z21 j) NG,[]⟩) (k:=.inBlock 1::.code (sqB (sqB (sqB fw)))::rK) (by simp) (by simp only[fw,lg,x85,RX,NK,sqA,sqB,inn,aY];rfl) (by k_ne) (by
    simp only[fw,lg,x85,RX,NK,sqA,sqB,inn,aY,tmx,tx];go_simp;rfl) rfl
  refine Eq.trans ?_ (l.trans ?_)
  ·simp only[rK,fw,lg,kC,x85,RX,NK,sqA,sqB,inn,aY,tmx,tx,dO,pt];rfl
  ·have n:listed NV (Oq 85).fn ⟨tmx x j (.bool NB) (.tuple #[]) (tx x) (z21 j) NG,[]⟩ ((aY (sqB (inn (sqA (sqB (sqB fw))))))[1]'(by simp only[fw,lg,x85,RX,NK,sqA,sqB,inn,aY];decide)) w₁=#[]:=by
    unfold listed;have:((QN (Act.eval ⟨tmx x j (.bool NB) (.tuple #[]) (tx x) (z21 j) NG,[]⟩) ((aY (sqB (inn (sqA (sqB (sqB fw))))))[1]'(by simp only[fw,lg,x85,RX,NK,sqA,sqB,inn,aY];decide))).events NV w₁ #[])=#[]:=by
     simp only[fw,lg,x85,RX,NK,sqA,sqB,inn,aY,tmx,tx];simp[go_sem]
    rw[this,seen_none]
   rw[n];simp only[rK,fw,lg,kC,x85,RX,NK,sqA,sqB,inn,aY,tmx];rfl
 ·rintro g ⟨W,p⟩;exact⟨⟨⟨e,W,p⟩,g.fz,g.size,g.os⟩,.inl ⟨rfl,λ_ h=>h⟩⟩
noncomputable def AO(x:Ph4):NS:=(Oq 85).at ⟨tmx x (min 4 x.N) (.bool NC) (z19 (min 4 x.N)) (z20 x (min 4 x.N)) (z21 (min 4 x.N)) NG,[]⟩ [.inRegion (aY (sqA kC)) [0],.code (sqB kC)]
noncomputable def JB(x:Ph4):NS:=(Oq 85).at ⟨tmx x (min 4 x.N) (.bool NC) (z19 (min 4 x.N)) (z20 x (min 4 x.N)) (z21 (min 4 x.N)) (.tuple #[]),[]⟩ [.inRegion (aY (sqA kC)) [],.code (sqB kC)]
def F0(x:Ph4)(cs:Nu NS)(g:NF)(w:Nt):Prop:=g=G (JB x) cs/\QO 166 x.Wg w
def tU(e:x.AnchW=oy link x.Wg (AO x) cs)(w:Nt)(a:QO 166 x.Wg w):x.cfg.GM x.cfg.AtKd 13 (yS x cs (min 4 x.N)) w:=by
 refine Cfg.kd_of ?_;have b:decide (((min 4 x.N:NA):NH)<((min 4 x.N:NA):NH))=NC:=decide_eq_false (by omega);have c:x.cfg.AnchW=oy link x.Wg (AO x) cs:=e;rw[c];generalize d:min 4 x.N=n at b;simp only[AO,yS,rK,fw,lg,kC,x85,RX,NK,sqA,sqB,inn,aY,tmx,d];u_c Ob af a;u_reg af a;u_op af a;u_c NI af a;u_c Ob af a;u_cond NC af a;u_exit af a;u_c Ob af a;u_reg af a;u_in af a;refine goes_call rfl rfl (by k_ne) rfl qG.f_wait (nm_wait link) rfl ⟨by u_nil,?_⟩
 walk_nrmf waitFn
 exact Go.Co.waitStart (L:=link) qG _ a
def KQ(d:x.AnchW=oy link x.Wg (AO x) cs):∀r j,j+r=min 4 x.N->(∀w,QO 166 x.Wg w->x.cfg.Spawns r (yS x cs j) w)/\(0<j->∀w,QO 166 x.Wg w->x.cfg.Spawns r (Ll x cs (j - 1)) w):=by
 intro r;induction r with
 | zero=>
  intro j h;have e:j=min 4 x.N:=by omega
  subst e;refine⟨λw a=>⟨13,tU d w a⟩,λg w a=>⟨7+13,?_⟩⟩;have e:min 4 x.N - 1+1=min 4 x.N:=by omega
  exact tV (j:=min 4 x.N - 1) (by omega) (λw a=>by rw[e];exact tU d w a) w a
 | succ r f=>
  intro j h;have b:=(f (j+1) (by omega)).2 (by omega);rw[Nat.add_sub_cancel] at b;have c:∀w,QO 166 x.Wg w->x.cfg.GM (x.cfg.AtKdS (x.cfg.Spawns r)) 24 (yS x cs j) w:=Fi (N:=3+0) (by omega) (IM b);refine⟨λw a=>⟨24,c w a⟩,λg w a=>⟨7+24,?_⟩⟩;obtain⟨k,rfl⟩:∃k,j=k+1:=⟨j - 1,by omega⟩;exact tV (by omega) c w a
def Il(a:x.AnchW=oy link x.Wg (AO x) cs)(g:NF)(w:Nt)(h:x.AnchW g w):g.status=.running:=by
 rw[a] at h;obtain⟨T,rfl,_⟩:=h;rfl
def JY(b:x.AnchW=oy link x.Wg (AO x) cs)(a:x.Fin=λg w=>TO NV NB (LR 166 x.Wg) UN (F0 x cs) 40 g w)(g:NF)(w:Nt)(h:x.AnchW g w):∃m,x.cfg.GM x.cfg.AtW1 m g w:=by
 rw[b] at h;have f:=Go.Co.waitRound (L:=link) (Fin:=F0 x cs) qG (b₀:=Oq 85) (a₀:=⟨tmx x (min 4 x.N) (.bool NC) (z19 (min 4 x.N)) (z20 x (min 4 x.N)) (z21 (min 4 x.N)) NG,[]⟩) (ops₀:=aY (sqA kC)) (i₀:=0) (rest₀:=[]) (k₀:=[.code (sqB kC)]) (cs:=cs) ?_ g w h
 ·refine⟨30,Cfg.GM.of f λg w hm=>?_⟩;refine Cfg.w1_of (C:=x.cfg) (F0:=F0 x cs) (λg w d=>?_) ?_
  ·show x.Fin g w;rw[a];exact d
  ·have e:x.cfg.AnchW=x.AnchW:=rfl;rw[e,b];exact hm
 ·intro w c;refine⟨?_,c⟩;simp only[JB,kC,x85,RX,NK,sqA,sqB,inn,aY,tmx];rfl
end
end
end Go.Proofs.YtidgnkmjgioapaaGreat
section
namespace Go.Co
open Go.Conc Go.ConcN Go.Sim
section
variable{P:NR}{Post:Ny->Nt->Prop}{cl:NA->Cl}{w:Nt}
def EE.of_goes{R:Nt->Nt->Prop}(c:∀w d,R w (w.at d)){b:NF->Nt->Prop}(f:∀g d,b g (w.at d)->EE P Post cl g w):∀{n:NA} {g:NF} {d:NA},TO P NB R UN b n g (w.at d)->EE P Post cl g w:=by
 intro n;induction n with
 | zero=>exact λ{g d} h=>f g d (h _ (c _ _))
 | succ n i=>
  intro g d h;rcases h with h | ⟨k,h⟩
  ·exact f g d (h _ (c _ _))
  ·refine λs=>E.step k λa=>?_;have⟨l,q,r,e,⟨p,o⟩,j⟩:=goes_elim (h (w.at a) (c (w.at d) a));subst p;subst o;exact⟨l,w.at a,#[],e,Nv _,by simp,i j a⟩
def EE.enterB{b:NS}{a:QF}{k:Nu Si}{cs:Nu NS}{d:NJ PE}{i:NA}{e:Nu NA}{o:PE}{f:Pl}{g:Func}{c:Qs}{args:NJ OQ}{l:NJ NZ}(p:d[i]?=Nq o)(n:Oy o (PH d a.tmps)=NB)(q:b.kind≠.early)(j:o.op=.call { callee:=.value (.func f),args,argTypes:=l })(hf:P.funcs[f]?=Nq g)(hname:(g.name == "runtime.NumGoroutine")=NC)(hb:g.body=Nq c)(h:EE P Post cl (G ((base f).at { tmps:=args.map a.eval++OY (g.ntmps - (args.map a.eval).size) NG,defers:=[] } [.code c]) (b.at a (.inRegion d (i::e)::k)::cs)) w) :EE P Post cl (G (b.at a (.inRegion d (i::e)::k)) cs) w :=
 EE.enter p n q j hf hname (by rw[hb];rfl) (by rw[enter_at _ hf hb];exact h)
def Hj{A o a:NA}(h:cl A=.sync)(f:A<a):EvG cl a 0 ⟨.cell ⟨A,o,Ns⟩,NC,NB⟩/\dM ⟨.cell ⟨A,o,Ns⟩,NC,NB⟩:=by
 refine⟨λx d b e=>?_,by simp[dM],by simp,by simp⟩;have c:x=⟨.cell ⟨A,o,Ns⟩,NC,.atomic⟩:=by simp[PG,Qr] at d;exact d.symm
 subst c;simp only[blk,OM] at e;subst e;exact⟨f,.inr (.inr ⟨h,by simp,by simp⟩)⟩
end
end Go.Co
namespace Go.Proofs.YtidgnkmjgioapaaGreat
open Go Go.RowKit Go.Conc Go.ConcN Go.ConcN.Gen Go.Conc.Lib Go.ConcR.Gen Go.Co Go.Sim
section
variable{x:Ph4}{cs:Nu NS}
def after{Post:Ny->Nt->Prop}{cl:NA->Cl}{w:Nt}{v:OI}(f:w.heap[x.Fd]?=Nq (.cells #[.int .u32 (if v then 1 else 0)] 161 (0,0)))(i:cl x.Fd=.sync)(j:∀b,w.heap.size<=b->cl b=.mine 0)(c:∀t g,t.getD 6 NG=.bool v->EE NV Post cl (G { (Oq 85).at ⟨t,[]⟩ g with mode:=.returning } cs) w):EE NV Post cl (G (JB x) cs) w:=by
 have h:x.Fd<w.heap.size:=(Nz.1 f).1;have a:∀d,(w.at d).cell? x.Fd=Nq (.int .u32 (if v then 1 else 0)):=λd=>lV f rfl;generalize l:min 4 x.N=n;simp only[JB,kC,x85,RX,NK,sqA,sqB,inn,aY,tmx,l];refine EE.region_end ?_;refine EE.seq ?_;refine EE.region ?_;simp only[Ox,NQ,NU,Oh,Oc,Oo,Pf];refine EE.enterB rfl rfl (by k_ne) rfl UU (by kernel_rfl) rfl ?_
 walk_nrmf UG
 refine EE.seq ?_;refine EE.region ?_;simp only[Ox,NQ,NU,Oh,Oc,Oo,Pf];refine EE.value (.bool NC) rfl rfl (by k_ne) (λ_=>by go_simp) (λ_=>by simp[go_sem]) ?_;walk_nrm;refine EE.region_end ?_;refine EE.seq ?_;refine EE.region ?_;simp only[Ox,NQ,NU,Oh,Oc,Oo,Pf];refine EE.value (.pointer (Nq x.Fd)) rfl rfl (by k_ne) (λ_=>by go_simp) (λ_=>by simp[go_sem]) ?_;walk_nrm;refine EE.value (.pointer (Nq x.Fd)) rfl rfl (by k_ne) (λ_=>by go_simp) (λ_=>by simp[go_sem]) ?_;walk_nrm;refine EE.value (.pointer (Nq x.Fd)) rfl rfl (by k_ne) (λ_=>by go_simp) (λ_=>by simp[go_sem]) ?_;walk_nrm;refine EE.raw w cl rfl (λd=>⟨_,SY rfl rfl (by k_ne) rfl ZR (by kernel_rfl) (by kernel_rfl) (by kernel_rfl) .u32 (by kernel_rfl) rfl (a d),?_⟩) (Nv _) (λ_ _=>rfl) j ?_
 ·intro e k;simp at k;subst k;exact Hj i h
 walk_nrm;clear a f;cases v with
 | false=>
  simp only[if_false,OJ];refine EE.value (.bool NC) rfl rfl (by k_ne) (λ_=>by go_simp) (λ_=>by simp[go_sem]) ?_;walk_nrm;refine EE.value (.bool NC) rfl rfl (by k_ne) (λ_=>by go_simp) (λ_=>by simp[go_sem]) ?_;walk_nrm;refine EE.region_end ?_;refine EE.retS ?_;refine EE.leave1 rfl rfl UU rfl ?_;walk_nrm;refine EE.value (.bool NC) rfl rfl (by k_ne) (λ_=>by go_simp) (λ_=>by simp[go_sem]) ?_;walk_nrm;refine EE.region_end ?_;refine EE.retS ?_;exact c _ _ rfl
 | true=>
  simp only[if_true];refine EE.value (.bool NB) rfl rfl (by k_ne) (λ_=>by go_simp) (λ_=>by simp[go_sem]) ?_;walk_nrm;refine EE.value (.bool NB) rfl rfl (by k_ne) (λ_=>by go_simp) (λ_=>by simp[go_sem]) ?_;walk_nrm;refine EE.region_end ?_;refine EE.retS ?_;refine EE.leave1 rfl rfl UU rfl ?_;walk_nrm;refine EE.value (.bool NB) rfl rfl (by k_ne) (λ_=>by go_simp) (λ_=>by simp[go_sem]) ?_;walk_nrm;refine EE.region_end ?_;refine EE.retS ?_;exact c _ _ rfl
end
end Go.Proofs.YtidgnkmjgioapaaGreat
end
section
namespace Go.Proofs.YtidgnkmjgioapaaGreat
open Go Go.RowKit Go.Conc Go.ConcN Go.ConcN.Gen Go.Conc.Lib Go.ConcR.Gen Go.Co Go.Sim
namespace Ph4
noncomputable def on(x:Ph4)(a:Nu NS):Ph4:={ x with Fin:=λg w=>TO NV NB (LR 166 x.Wg) UN (F0 x a) 40 g w,AnchW:=oy link x.Wg (AO x) a }
def Mq{a:NZ}{e:NA}(w:Nt)(d:NA):LR a e w (w.at d):=λ⟨b,c,h⟩=>⟨b,c,h⟩
def all{x:Ph4}{cs:Nu NS}(o:(x.on cs).Ok)(c:∀t a w (v:OI),(v=NB↔∃i,i<x.N/\x.bad i=NB)->(x.on cs).cfg.Ph w->t.getD 6 NG=.bool v->EE NV x.Post (flat x.clA) (G { (Oq 85).at ⟨t,[]⟩ a with mode:=.returning } cs) w):(x.on cs).cfg.Ok :=
 o.cfg (Il (cs:=cs) rfl) (JY (cs:=cs) rfl rfl) λW ls g w p hJ k l f=>by
  have e:TO NV NB (LR 166 x.Wg) UN (F0 x cs) 40 g (w.at w.drawn):=p;refine(EE.of_goes (λw d=>Mq w d) (λg d j=>?_) e) w.drawn;obtain⟨rfl,_⟩:=j;refine after (v:=W.2) l.2 ?_ (λb n=>?_) λt a h=>c t a w W.2 (J.final hJ k) f h
  ·have:=o.sync x.Fd (by simp[jks,on]);unfold flat;rw[show(x.on cs).clA x.Fd=.sync from this]
  ·have:=o.cla0 b (NM f.size n);unfold flat;rw[show(x.on cs).clA b=.mine 0 from this]
end Ph4
def vI(n a:NA)(d:NA->Cl)(b:NA):Cl:=match d b with | .mine 0=>if b<n then .ro a else .mine 0 | c=>c
def ql{n a b:NA}{c:NA->Cl}(h:c b=.mine 0)(d:b<n):vI n a c b=.ro a:=by unfold vI;rw[h];simp[d]
def rh{n c b:NA}{a:NA->Cl}(h:a b=.mine 0)(d:n<=b):vI n c a b=.mine 0:=by unfold vI;rw[h];simp;omega
def qk{n d b:NA}{a:NA->Cl}(h:a b≠.mine 0):vI n d a b=a b:=by
 unfold vI;cases hc:a b with
 | mine g=>
  cases g with
  | zero=>exact absurd hc h
  | succ g=>rfl
 | ro c=>rfl
 | sync=>rfl
def jP(Y V B A:NA)(a:Nu NA):Nu NA:=0::Y::V::B::A::a
def Mh{M:NA}{Post:Ny->Nt->Prop}[JunkSet]{w0:Nt}{d8:NA->Cl}{ρ0:Ren}{yb R Q ab:NO OX}{ps:Nu Par}{yc pn pc vn vc N ac:NA}{lim:NH}{Y B V A Nx Fd Wg:NA}{O:Ren}{wq:Nt}{w:Nt}{D:NA->Cl}{cs:Nu NS}{l wl:Nu NH}{c:NA->NA->NH}{s:Nu NA}(j:At5 Ya M w0 d8 ρ0 yb R Q ab ps.length yc pn pc vn vc N ac lim Y B V A Nx Fd Wg O wq w D)(a9:∀b∈s,D b=.mine 0/\∃cs e f,w.heap[b]?=Nq (.cells cs e f)/\∀(i:NA) v,cs[i]?=Nq v->∃k m,v=.int k m)(h0:∃cs e f,w.heap[0]?=Nq (.cells cs e f)/\∀(i:NA) v,cs[i]?=Nq v->∃k m,v=.int k m)(d6:D 0=.mine 0)(T:∀a,yb=Nq a->a.block∈s)(Z:∀a,R=Nq a->a.block∈s)(W:∀a,Q=Nq a->a.block∈s)(b0:∀a,ab=Nq a->a.block∈s)(pars:aD 0 w.heap.size w (.slice yb ps.length yc) ps)(ints:aj 0 w.heap.size w (.slice Q vn vc) wl)(intp:aj 0 w.heap.size w (.slice R pn pc) l)(cas:iH 0 w.heap.size w (.slice ab N ac) N c)(n5:ps.length<=5)(bmn:∀i,0<=pre Par.mn ps ps.length i/\pre Par.mn ps ps.length i<=1000)(bmx:∀i,0<=pre Par.mx ps ps.length i/\pre Par.mx ps ps.length i<=1000)(bc:∀i d,0<=c i d/\c i d<=1000)(hl:∀y∈l,0<=y/\y<ps.length)(ll:l.length<=1000)(hwl:∀y∈wl,0<=y/\y<5)(hN:N<=900000)(a8:∀t F L cl6 (v:OI),(v=NB↔∃i,i<N/\(aC ps (ovr (c i) (pre Par.mn ps ps.length) wl wl.length) l && !aC ps (ovr (c i) (pre Par.mx ps ps.length) wl wl.length) l)=NB)->(∀b,b<w.heap.size->D b=.mine 0->L.heap[b]?=w.heap[b]?)->w.heap.size<=L.heap.size->L.os=w.os->L.output=w.output ->(∀b,D b=.mine 0->cl6 b=.mine 0)->(∀b,L.heap.size<=b->cl6 b=.mine 0)->t.getD 6 NG=.bool v->EE NV Post cl6 (G { (Oq 85).at ⟨t,[]⟩ F with mode:=.returning } cs) L) :EE NV Post D (G ((Oq 85).at ⟨KD yb R Q ab ps.length yc pn pc vn vc N ac lim Y B V A Nx Fd Wg 0 NG undef undef undef,[]⟩ [.code lg,.code kC]) cs) w:=by
 have e1:lg=.block 0 (.loop fw):=by kernel_rfl
 rw[e1];refine EE.block ?_;refine EE.loop ?_;intro d;refine E.crowd (U:=NA × OI) (X:=Lam) λlo hlo=>?_
 let x:Ph4:={ W1:=w.at d,clA:=vI w.heap.size lo D,lo:=lo,Wg:=Wg,Nx:=Nx,A:=A,Fd:=Fd,Y:=Y,V:=V,B:=B,ps:=ps,lim:=lim,l:=l,wl:=wl,N:=N,c:=c,yb:=yb,yc:=yc,ab:=ab,ac:=ac,pv:=.slice R pn pc,vv:=.slice Q vn vc,nds:=jP Y V B A s,Post:=Post,Fin:=λ_ _=>RI,AnchW:=λ_ _=>RI }
 have aJ:∀{b:NA} {o:Obj},w.heap[b]?=Nq o->b<w.heap.size:=λh=>(Nz.1 h).1;have P:∀b∈jP Y V B A s,D b=.mine 0/\b<w.heap.size:=by
  intro b n;simp only[jP,ON] at n;obtain⟨d7,e0,f0,h0,a7⟩:=h0;rcases n with rfl | rfl | rfl | rfl | rfl | n
  ·exact⟨d6,aJ h0⟩
  ·exact⟨j.cY,aJ j.hY⟩
  ·exact⟨j.cV,aJ j.hV⟩
  ·exact⟨j.cB,aJ j.hB⟩
  ·exact⟨j.cA,aJ j.hA⟩
  ·have⟨k1,cs,e,f,k2,_⟩:=a9 b n;exact⟨k1,aJ k2⟩
 have b6:∀b∈jP Y V B A s,x.clA b=.ro lo:=λb n=>ql (P b n).1 (P b n).2;have S:∀b∈[Wg,Nx,Fd],D b=.sync/\b<w.heap.size:=by
  intro b n;simp only[ON,PY,or_false] at n;rcases n with rfl | rfl | rfl
  ·exact⟨j.cWg,aJ j.hWg⟩
  ·exact⟨j.cNx,aJ j.hNx⟩
  ·exact⟨j.cFd,aJ j.hFd⟩
 have p:∀{a:OX},a.block∈s->a.block∈jP Y V B A s:=λh=>by simp[jP,h]
 have e4:∀b∈jP Y V B A s,BR x.r0 b b:=λb n=>pR.2 ⟨(P b n).2,rfl,.inl n⟩;have H:∀(q:NO OX) (m k:NA),(∀a,q=Nq a->a.block∈s)->@VR x.js x.r0 (.slice q m k) (.slice q m k):=λq m k hq=>by
  cases q with
  | none=>exact @VR.sliceNil x.js _ m k
  | some a=>exact @VR.slice x.js _ _ _ a.off a.spot m k (e4 _ (p (hq a rfl)))
 have one:∀(v:Ny),@VR x.js x.r0 v v->∀(i:NA) (u:Ny),(#[v]:NJ Ny)[i]?=Nq u->@VR x.js x.r0 u u:=λv z i u hu=>by
  cases i with
  | zero=>simp at hu;rw[<- hu];exact z
  | succ i=>simp at hu
 have o:(x.on cs).Ok:={
  hlo:=hlo
  hY:=j.hY
  hV:=j.hV
  hB:=j.hB
  hA:=j.hA
  pars:=pars
  ints:=ints
  intp:=intp
  cas:=cas
  n5:=n5
  bmn:=bmn
  bmx:=bmx
  bc:=bc
  hl:=hl
  ll:=ll
  hwl:=hwl
  hN:=hN
  jlt:=λb n=>(S b n).2
  ne1:=by have:=j.l2;show Nx≠Fd;omega
  ne2:=by have:=j.l2;have:=j.l3;show Wg≠Nx;omega
  ne3:=by have:=j.l3;show Wg≠Fd;omega
  sync:=λb n=>by
   have h1:=(S b n).1;exact(qk (by rw[h1];simp)).t h1
  nro:=b6
  nok:=by
   intro b n;have r:b∈jP Y V B A s:=n;simp only[jP,ON] at r;obtain⟨d7,e0,f0,h0,a7⟩:=h0;rcases r with rfl | rfl | rfl | rfl | rfl | r
   ·exact⟨_,_,_,h0,λi v z=>by obtain⟨k,m,rfl⟩:=a7 i v z;exact @VR.int (x.on cs).js _ k m⟩
   ·refine⟨_,_,_,j.hY,λi v z=>?_⟩;have hi:i=0\/i=1:=by
     have:=(Nz.1 z).1;simp at this;omega
    rcases hi with rfl | rfl
    ·simp at z;rw[<- z];exact H _ _ _ T
    ·simp at z;rw[<- z];exact @VR.int x.js _ _ _
   ·exact⟨_,_,_,j.hV,one _ (H _ _ _ W)⟩
   ·exact⟨_,_,_,j.hB,one _ (H _ _ _ Z)⟩
   ·exact⟨_,_,_,j.hA,one _ (H _ _ _ b0)⟩
   ·have⟨k1,cs1,e,f,k2,k3⟩:=a9 b r;refine⟨_,_,_,k2,λi v z=>?_⟩;obtain⟨k,m,rfl⟩:=k3 i v z;exact @VR.int x.js _ _ _
  n0:=by show 0∈jP Y V B A s;simp[jP]
  nY:=by show Y∈jP Y V B A s;simp[jP]
  nV:=by show V∈jP Y V B A s;simp[jP]
  nB:=by show B∈jP Y V B A s;simp[jP]
  nA:=by show A∈jP Y V B A s;simp[jP]
  nyb:=λq oo n' c' e _=>by cases e;exact p (a:=⟨q,oo,Ns⟩) (T _ rfl)
  nvv:=λq oo n' c' e _=>by cases e;exact p (a:=⟨q,oo,Ns⟩) (W _ rfl)
  npv:=λq oo n' c' e _=>by cases e;exact p (a:=⟨q,oo,Ns⟩) (Z _ rfl)
  nab:=λq oo n' c' e _=>by cases e;exact p (a:=⟨q,oo,Ns⟩) (b0 _ rfl)
  cla0:=λb n=>by
   have r:w.heap.size<=b:=n;exact rh (j.c0 b r) r }
 refine⟨(x.on cs).cfg,rfl,rfl,rfl,rfl,Ph4.all o ?_,λb n=>?_,?_,j.hWg,(0,NC),λ_=>.st,⟨j.hNx,j.hFd⟩,?_⟩
 ·intro t F L v z hp ht;refine a8 t F L _ v z (λb n I=>?_) hp.size hp.os hp.output (λb n=>?_) (λb n=>?_) ht
  ·exact hp.fz b ⟨n,ql I n⟩
  ·show flat (vI w.heap.size lo D) b=_;unfold flat;rcases PP b w.heap.size with C | C
   ·rw[ql n C]
   ·rw[rh n C]
  ·show flat (vI w.heap.size lo D) b=_;have C:w.heap.size<=b:=NM hp.size n;unfold flat;rw[rh (j.c0 b C) C]
 ·have r:b<w.heap.size:=n;cases I:D b with
  | mine g=>
   cases g with
   | zero=>exact .inr ⟨rfl,ql I r⟩
   | succ g=>exact .inl ((qk (by rw[I];simp)).t I)
  | ro e8=>exact .inl ((qk (by rw[I];simp)).t I)
  | sync=>exact .inl ((qk (by rw[I];simp)).t I)
 ·have d5:=(KQ (x:=x.on cs) (cs:=cs) rfl (min 4 N) 0 (by show 0+min 4 N=min 4 N;omega)).1 (w.at d) ⟨_,_,j.hWg⟩;exact d5
 ·exact⟨OE _,λh=>(by cases h),λ_ i _ h=>absurd h (Nat.not_lt_zero i),λk hk=>absurd hk (Nat.not_lt_zero k)⟩
end Go.Proofs.YtidgnkmjgioapaaGreat
end
namespace Go.Proofs.YtidgnkmjgioapaaGreat
section
open Go Go.RowKit Go.Conc Go.ConcN Go.ConcN.Gen Go.Conc.Lib Go.ConcR.Gen Go.Co Go.Sim
def br(w:Nt)(B:NA):Prop:=∃a e f,w.heap[B]?=Nq (.cells a e f)/\∀(i:NA) v,a[i]?=Nq v->∃k m,v=.int k m
def bj(w:Nt)(v:Ny):Prop:=∀a n c,v=.slice (Nq a) n c->br w a.block
section
variable[JunkSet]{Q:NR}{Z:Ren}{wq w:Nt}{M:NA}
def Jq{b a:NJ Ny}(h:AsR Z b a)(g:∀(i:NA) v,b[i]?=Nq v->∃k m,v=.int k m):a=b:=by
 refine Array.ext h.1.symm λi j d=>?_;have⟨k,m,e⟩:=g i b[i] (Om d);have c:=h.2 i _ _ (Om d) (Om j);rw[e] at c ⊢;generalize a[i]=y at c;cases c;rfl
def EO(g:WR Q M Z wq w)(a:∀i,¬ JunkSet.jk i){i j:NA}(b:BR Z i j){c:NJ Ny}{e:NZ}{f:NA × NA}(h:wq.heap[i]?=Nq (.cells c e f))(l:∀(i:NA) v,c[i]?=Nq v->∃k m,v=.int k m):∃q,w.heap[j]?=Nq (.cells c e q):=by
 rcases g.obj i j _ b h with⟨p,_⟩ | ⟨_,r,d,o⟩
 ·exact absurd p (a i)
 ·cases o with
  | cells e n _=>
   rw[Jq n l] at d;exact⟨_,d⟩
def EM(d:WR Q M Z wq w)(a:∀i,¬ JunkSet.jk i){i j:NA}(b:BR Z i j)(h:br wq i):br w j:=by
 obtain⟨n,e,f,k,c⟩:=h;have⟨l,g⟩:=EO d a b k c;exact⟨n,e,l,g,c⟩
def zS(l:WR Q M Z wq w)(a:∀i,¬ JunkSet.jk i){i j:NA}(b:BR Z i j)(n:br wq i){k:NJ Ny}{e:NZ}{f:NA × NA}(h:wq.heap[i]?=Nq (.cells k e f)):∃c,w.heap[j]?=Nq (.cells k e c)/\j<w.heap.size:=by
 obtain⟨p,q,f1,g,o⟩:=n;rw[h] at g;cases g;have⟨c,d⟩:=EO l a b h o;exact⟨c,d,(Nz.1 d).1⟩
def Bt(t:WR Q M Z wq w)(d:∀i,¬ JunkSet.jk i){s x:NA}{v k:Ny}{l:Nu NH}(h:aj s x wq v l)(y:bj wq v)(u:VR Z v k):aj 0 w.heap.size w k l:=by
 obtain⟨base,b,rfl,q,p⟩:=h;cases u with
 | sliceNil=>exact⟨Ns,b,rfl,q,λa=>by have⟨B,o,r,F,e,_⟩:=p a;cases e⟩
 | @slice i j c n _ _ g=>
  refine⟨_,b,rfl,q,λa=>?_⟩;have⟨B,o,r,F,e,_,_,D,C⟩:=p a;cases e;have⟨G,A,z⟩:=zS t d g (y _ _ _ rfl) D;exact⟨j,c,r,G,rfl,OE _,z,A,C⟩
def IC(t:WR Q M Z wq w)(d:∀i,¬ JunkSet.jk i){s x:NA}{v k:Ny}{l:Nu Par}(h:aD s x wq v l)(y:bj wq v)(u:VR Z v k):aD 0 w.heap.size w k l:=by
 obtain⟨base,b,rfl,q,p⟩:=h;cases u with
 | sliceNil=>exact⟨Ns,b,rfl,q,λa=>by have⟨B,o,r,F,e,_⟩:=p a;cases e⟩
 | @slice i j c n _ _ g=>
  refine⟨_,b,rfl,q,λa=>?_⟩;have⟨B,o,r,F,e,_,_,D,C⟩:=p a;cases e;have⟨G,A,z⟩:=zS t d g (y _ _ _ rfl) D;exact⟨j,c,r,G,rfl,OE _,z,A,C⟩
def EN(x:WR Q M Z wq w)(g:∀i,¬ JunkSet.jk i){u z:NA}{v l:Ny}{n:NA}{c:NA->NA->NH}(h:iH u z wq v n c)(A:bj wq v)(y:VR Z v l):iH 0 w.heap.size w l n c:=by
 obtain⟨base,b,rfl,s,r⟩:=h;cases y with
 | sliceNil=>exact⟨Ns,b,rfl,s,λa=>by have⟨B,o,t,p,H,e,_⟩:=r a;cases e⟩
 | @slice i j d q _ _ k=>
  refine⟨_,b,rfl,s,λa=>?_⟩;have⟨B,o,t,p,H,e,_,_,G,F⟩:=r a;cases e;have⟨I,D,C⟩:=zS x g k (A _ _ _ rfl) G;exact⟨j,d,t,p,I,rfl,OE _,C,D,F⟩
def qh{h:NA->Cl}(k:WR Q M Z wq w)(d:∀i,¬ JunkSet.jk i)(o:iw h Z){q g:NO OX}{n c:NA}(p:bj wq (.slice g n c))(l:VR Z (.slice g n c) (.slice q n c)):∀b,q=Nq b->h b.block=.mine 0/\br w b.block:=by
 rintro b rfl;cases l with
 | slice j e _ _ a=>exact⟨o _ _ a,EM k d a (p _ _ _ rfl)⟩
def EG{v:Ny}(h:VR Z NG v):v=NG:=by
 unfold NG at h;cases h with
 | tuple a _=>
  have:=Tl (by simpa using a.symm);rw[this];rfl
def LD{q:NO OX}{n c:NA}{m:NH}{y:Ny}(h:VR Z (.agg #[.slice q n c,m]) y):∃a,y=.agg #[.slice a n c,m]/\VR Z (.slice q n c) (.slice a n c):=by
 cases h with
 | @agg _ b k e=>
  have l:b.size=2:=by simpa using k.symm
  have d:=e 0 (.slice q n c) _ rfl (Om (by omega));have g:=e 1 (.int .i64 m) _ rfl (Om (by omega));obtain⟨a,j⟩:∃a,b[0]'(by omega)=.slice a n c:=by
   generalize b[0]'(by omega)=z at d;cases d<;>exact⟨_,rfl⟩
  have o:b[1]'(by omega)=.int .i64 m:=by
   generalize b[1]'(by omega)=z at g;cases g;rfl
  rw[j] at d;refine⟨a,?_,d⟩
  congr 1
  refine Array.ext (by simp[l]) λi r p=>?_;obtain rfl | rfl:i=0\/i=1:=by omega
  ·exact j
  ·exact o
def LY{d c b:Ny}{a:NJ Ny}{n:NA}(h:AsR Z (#[d,c,b]++OY n NG) a):∃o l k,a=#[o,l,k]++OY n NG/\VR Z d o/\VR Z c l/\VR Z b k:=by
 have q:a.size=3+n:=by rw[<- h.1];simp
 have g:∀i (j:i<a.size) x,(#[d,c,b]++OY n NG:NJ Ny)[i]?=Nq x->VR Z x a[i]:=λi j x p=>h.2 i x _ p (Om j);refine⟨a[0]'(by omega),a[1]'(by omega),a[2]'(by omega),?_,g 0 (by omega) d (by simp[Rx]),g 1 (by omega) c (by simp[Rx]),g 2 (by omega) b (by simp[Rx])⟩;refine Array.ext (by simp[q]) λi s t=>?_;by_cases j:i<3
 ·obtain rfl | rfl | rfl:i=0\/i=1\/i=2:=by omega
  all_goals simp[Xj]
 ·have r:i - 3<n:=by omega
  have e:(#[d,c,b]++OY n NG:NJ Ny)[i]?=Nq NG:=by
   rw[Array.getElem?_append_right (by simp;omega),Array.getElem?_replicate];simp[r]
  have:=EG (g i s NG e);rw[this];simp[Xj,j]
end
def Cas(N:NA)(c:NA->NA->NH)(wq:Nt)(v:Ny)(u:Nt):Prop:=iH 0 u.heap.size u v N c/\bj u v/\(wq.tp u.tape).gb u Ns
def Cj:Tryz.f85.results=#[.tmp 6]:=rfl
def Hc:Tryz.f85.ntmps=24:=rfl
section
variable[J:JunkSet]{f:Pl}{Post:Ny->Nt->Prop}{W:Nt}
def EL.doubtful(D:Two Ya NV)(l8:JunkSet.okf 137)(x:∀i,¬ JunkSet.jk i)(m3:Ya.inits.idxOf? f=Ns)(m6:∃g,Ya.funcs[f]?=Nq g/\Tryz.prog.funcs[f]?=Nq g){b:NS}{a:QF}{k:Nu Si}{cs:Nu NS}{wq:Nt}(hb:Bot f cs)(hs:Ya.funcs[b.fn]?=Tryz.prog.funcs[b.fn]?){X:NJ PE}{i:NA}{b0:Nu NA}{o:PE}(ho:X[i]?=Nq o)(hw:Oy o (PH X a.tmps)=NB){L b8 U:NO OX}{r:Nu Par}{l F:Nu NH}{yc pc vc N:NA}{c:NA->NA->NH}{a6:NH}(e9:∀T,(QN a.eval o).run Ya (wq.tp T)=.ok (.enter 85 #[.agg #[.slice L r.length yc,a6],.slice b8 l.length pc,.slice U F.length vc]) (wq.tp T))(d9:aD 0 wq.heap.size wq (.slice L r.length yc) r)(yi:bj wq (.slice L r.length yc))(e5:aj 0 wq.heap.size wq (.slice b8 l.length pc) l)(pi:bj wq (.slice b8 l.length pc))(e4:aj 0 wq.heap.size wq (.slice U F.length vc) F)(vi:bj wq (.slice U F.length vc))(h0:br wq 0)(n5:r.length<=5)(p3:∀i,0<=pre Par.mn r r.length i/\pre Par.mn r r.length i<=1000)(n9:∀i,0<=pre Par.mx r r.length i/\pre Par.mx r r.length i<=1000)(bc:∀i d,0<=c i d/\c i d<=1000)(hl:∀y∈l,0<=y/\y<r.length)(ll:l.length<=1000)(l6:∀y∈F,0<=y/\y<5)(hN:N<=900000)(h9:∀T,Oz Ya 137 #[.agg #[.slice L r.length yc,a6],.slice U F.length vc] (wq.tp T) λe u=>∃v,e=.returned v/\Cas N c wq v u)(h8:∀u (v:OI),(v=NB↔∃i,i<N/\(aC r (ovr (c i) (pre Par.mn r r.length) F F.length) l && !aC r (ovr (c i) (pre Par.mx r r.length) F F.length) l)=NB)->(wq.tp u.tape).gb u Ns ->EL Ya NV f Post W (G ((b.at a (.inRegion X (i::b0)::k)).finish (.bool v)) cs) u) :EL Ya NV f Post W (G (b.at a (.inRegion X (i::b0)::k)) cs) wq:=by
 obtain⟨fq,m7,l9⟩:∃fq,Ya.funcs[85]?=Nq fq/\fq.ntmps=Tryz.f85.ntmps:=by
  have h1:(Ya.funcs[85]?).map (·.ntmps)=Nq 24:=by kernel_rfl
  cases hq:Ya.funcs[85]? with
  | none=>rw[hq] at h1;cases h1
  | some fq=>rw[hq] at h1;exact⟨fq,rfl,by simpa using h1⟩
 refine EL.enterK D hb hs ho hw e9 Nd m7 Tryz.func85 l9 (c0:=Tryz.f85.body.getD .skip) (by kernel_rfl) ?_;intro Z tp c' p9 R w cl m8 z;rw[Hc] at z;obtain⟨y0,y1,y2,rfl,v0,v1,v2⟩:=LY (n:=21) (by simpa using z.tm);obtain⟨yb,rfl,vy⟩:∃yb,y0=.agg #[.slice yb r.length yc,a6]/\VR Z (.slice L r.length yc) (.slice yb r.length yc):=LD v0;obtain⟨pb,rfl⟩:∃pb,y1=.slice pb l.length pc:=by cases v1<;>exact⟨_,rfl⟩
 obtain⟨vb,rfl⟩:∃vb,y2=.slice vb F.length vc:=by cases v2<;>exact⟨_,rfl⟩
 have c3:EE NV Post cl (G ((Oq 85).at ⟨#[.agg #[.slice yb r.length yc,a6],.slice pb l.length pc,.slice vb F.length vc]++OY 21 NG,[]⟩ [.code (Tryz.f85.body.getD .skip)]) (c'::R)) w:=by
  refine LS D l8 (Rc:=Cas N c wq) z.c0 z.ln z.wr z.gl z.own v0 v2 x h9 (λv u h=>by obtain⟨⟨b1,c1,e,_⟩,_⟩:=h;exact⟨b1,N,c1,e⟩) ?_;intro O s v Y B V A Nx Fd Wg ab N' ac w5 k6 n4 b9 p;obtain⟨b7,k0,I⟩:=n4;obtain⟨b1,c1,rfl,s9,t6⟩:=id b7;obtain⟨rfl,rfl⟩:N'=N/\ac=c1:=by cases b9<;>exact⟨rfl,rfl⟩
  have gb:∀{B:NA},br wq B->br s B:=λ⟨n6,e,g,h1,h2⟩=>⟨n6,e,g,by rw[I.block _ (Nz.1 h1).1 (by simp)];exact h1,h2⟩;have gi:∀{v:Ny},bj wq v->bj s v:=λh S n c e=>gb (h S n c e);have e6:=vy.mono p.le;have g6:=v1.mono p.le;have e8:=v2.mono p.le;have t1:=qh p.wr x p.own (gi yi) e6;have t2:=qh p.wr x p.own (gi pi) g6;have t3:=qh p.wr x p.own (gi vi) e8;have t4:=qh p.wr x p.own k0 b9
  let bl:Nu NA:=(yb.toList++pb.toList++vb.toList++ab.toList).map (·.block)
  have n2:∀b∈bl,k6 b=.mine 0/\br w5 b:=by
   intro b hb;simp only[bl,Qp,Qb,Yq] at hb;obtain⟨S,(((h | h) | h) | h),rfl⟩:=hb
   ·exact t1 S h
   ·exact t2 S h
   ·exact t3 S h
   ·exact t4 S h
  have C:∀{q:NO OX},q∈[yb,pb,vb,ab]->∀S,q=Nq S->S.block∈bl:=by
   intro q hq S e;subst e;simp only[ON,PY,or_false] at hq;simp only[bl,Qp,Qb,Yq];refine⟨S,?_,rfl⟩;rcases hq with h | h | h | h<;>simp[<- h]
  have k7:BR O 0 0:=(z.gl 0 (OE _)).mono p.le;refine Mh p n2 ?_ (p.own _ _ k7) (C (by simp)) (C (by simp)) (C (by simp)) (C (by simp)) (IC p.wr x (show aD 0 wq.heap.size s _ r from d9.kept (w:=wq.tp s.tape) I (by simp)) (gi yi) e6) (Bt p.wr x (show aj 0 wq.heap.size s _ F from e4.kept (w:=wq.tp s.tape) I (by simp)) (gi vi) e8) (Bt p.wr x (show aj 0 wq.heap.size s _ l from e5.kept (w:=wq.tp s.tape) I (by simp)) (gi pi) g6) (EN p.wr x b7 k0 b9) n5 p3 n9 bc hl ll l6 hN ?_
  ·obtain⟨cs,e,g,h0,m4⟩:=h0;have h1:s.heap[0]?=Nq (.cells cs e g):=by rw[I.block 0 (Nz.1 h0).1 (by simp)];exact h0
   exact EM p.wr x k7 ⟨cs,e,g,h1,m4⟩
  ·intro t todo w6 t8 v hv g9 l7 g8 g7 b6 m9 ht;have n3:W.heap.size<=w.heap.size:=z.kp.size;have c5:∀b,b<W.heap.size->k6 b=.mine 0:=λb hb=>(p.cold b (NX hb n3)).t (z.om b hb);have s4:w.heap.size<=w5.heap.size:=p.kp.size;refine EE.pure (g':=G (c'.finish (.bool v)) R) rfl (λw=>?_) λd=>?_
   ·have hr:(Qo RX t).run NV w=.ok (.bool v) w:=by rw[<- ht];exact UE Cj t NV w
    exact stepG_leave (P:=NV) (main:=NB) (b:=Oq 85) (a:=⟨t,[]⟩) (cs:=R) (c:=c') (todo:=todo) (fn:=RX) rfl rfl Tryz.func85 hr (Uy Cj _ _)
   ·have e7:WR Ya W.heap.size O s w6:=p.wr.rely l7 (by rw[g8]) (λi j H _=>g9 j (p.wr.lt _ _ H) (p.own _ _ H)) (λi j _ h=>absurd h (x i));have hE:=h8 s v hv I;rw[m8] at hE;refine EL.resume hE m3 m6 p.le z.top z.rest (.bool v) (EB e7 d) p.ln z.gl (λi j H=>b6 j (p.own i j H)) m9 ⟨λj hj hn=>?_,g8.trans (p.kp.os.trans z.kp.os),g7.t (p.kp.output.trans z.kp.output),?_,λi j H hi=>?_,?_⟩ λb hb=>b6 b (c5 b hb)
    ·show w6.heap[j]?=_;rw[g9 j (by omega) (c5 j hj),p.kp.old j (by omega) hn,z.kp.old j hj λi hi=>hn i (hi.mono p.le)]
    ·show W.heap.size<=w6.heap.size;omega
    ·rcases p.fr i j H with h | h
     ·exact z.kp.inn i j h hi
     ·omega
    ·show W.heap.size<=w6.heap.size;omega
 have:=c3 w.drawn;exact this
end
end
section
open Go Go.RowKit Go.Co Go.Sim
def Bc(b:Nu Par)(a:Nu NH):NA:=(fT b a).length
def tH(b:Nu Par)(a:Nu NH)(i d:NA):NH:=((fT b a)[i]?.getD λ_=>0) d
def JO(c:Nu Par)(k:∀p∈c,0<=p.mn/\p.mn<=p.mx/\p.mx<=1000)(b:Nu NH):∀g∈fT c b,∀d,0<=g d/\g d<=1000:=by
 have e:∀(b:Nu NH) (L:Nu (NA->NH)),(∀g∈L,∀d,0<=g d/\g d<=1000)->∀g∈b.foldl (iF c) L,∀d,0<=g d/\g d<=1000:=by
  intro b;induction b with
  | nil=>exact λL h=>h
  | cons x b j=>
   intro L h;refine j _ λg a d=>?_;unfold iF at a;split at a
   ·rename_i p f
    have⟨q,o,n⟩:=k p (Od f);unfold gz at a;rw[Sc] at a;obtain⟨l,i,a⟩:=a;unfold iD at a;rw[Qp] at a;obtain⟨m,hm,rfl⟩:=a;rw[Py] at hm;unfold kOf at hm;unfold qZ;split
    ·omega
    ·exact h l i d
   ·exact h g a d
 exact e b _ λg a d=>by simp at a;subst a;simp
def JP(a:Nu Par)(c:∀p∈a,0<=p.mn/\p.mn<=p.mx/\p.mx<=1000)(b:Nu NH)(i d:NA):0<=tH a b i d/\tH a b i d<=1000:=by
 unfold tH;cases h:(fT a b)[i]? with
 | none=>simp
 | some g=>exact JO a c b g (Od h) d
def Ly{y f:NA}{t w:Ny}{b:Nu Par}{o:NH}{a:Nu NH}{l:Nt}(N:dh y f l t b o)(P:aj y f l w a)(z:f<=l.heap.size)(Q:b.length<=5)(G:∀x∈a,0<=x/\x<b.length)(I:∀p∈b,0<=p.mn/\p.mn<=p.mx/\p.mx<=1000)(F:∀j,j<=a.length->(fT b (a.take j)).length<=900000)(T:NA->Qe->NA) :Oz Ya 137 #[t,w] (l.tp T) λe u=>∃v,e=.returned v/\Cas (Bc b a) (tH b a) l v u:=by
 refine(En y f t w b o a (l.tp T) N P z Q G I F).mono ?_;rintro e u ⟨v,rfl,D,L,f⟩;have O:Bc b a<=900000:=by have:=F a.length (Nv _);rwa [Ps] at this
 refine⟨v,rfl,?_,?_,?_⟩
 ·rcases L.2 with⟨rfl,R⟩ | ⟨g,C,B,rfl,U,r,_,_,_,k⟩
  ·have A:Bc b a=0:=R;exact⟨Ns,0,by rw[A],by omega,λh=>by omega⟩
  ·refine⟨_,C,rfl,by omega,λ_=>⟨g,0,B,101,_,rfl,OE _,(Nz.1 r).1,r,λi f d M=>?_⟩⟩;have q:i<(fT b a).length:=f;have s:=uR (fT b a) i _ (ND q) d M;rw[<- k,Ty] at s;split at s
   ·rw[Oc];unfold tH;rw[ND q];simpa using s
   ·cases s
 ·intro S n c e;subst e;exact f S.block rfl
 ·have H:u.tape=T:=D.tape;rw[H];exact D
end
section
open Go Go.RowKit Go.Co Go.Sim Go.Conc Go.ConcN
def FR{a:Nu Par}{f:Par->NH}(b:∀p∈a,0<=f p/\f p<=1000)(k i:NA):0<=pre f a k i/\pre f a k i<=1000:=by
 unfold pre;split
 ·cases h:a[i]? with
  | none=>simp
  | some p=>exact b p (Od h)
 ·simp
def oU(a:Nu Par)(l b:Nu NH):Prop:=∃i,i<Bc a b/\(aC a (ovr (tH a b i) (pre Par.mn a a.length) b b.length) l && !aC a (ovr (tH a b i) (pre Par.mx a a.length) b b.length) l)=NB
section
variable[J:JunkSet]{f:Pl}{Post:Ny->Nt->Prop}{W:Nt}
def EL.doubt(D:Two Ya NV)(A:JunkSet.okf 137)(B:∀i,¬ JunkSet.jk i)(C:Ya.inits.idxOf? f=Ns)(F:∃g,Ya.funcs[f]?=Nq g/\Tryz.prog.funcs[f]?=Nq g){b:NS}{a:QF}{k:Nu Si}{I:Nu NS}{d:Nt}(hb:Bot f I)(X:Ya.funcs[b.fn]?=Tryz.prog.funcs[b.fn]?){e:NJ PE}{i:NA}{n:Nu NA}{o:PE}(Y:e[i]?=Nq o)(U:Oy o (PH e a.tmps)=NB){ybq pbq vbq:NO OX}{ps:Nu Par}{l wl:Nu NH}{yc pc vc:NA}{lim:NH}(w:∀T,(QN a.eval o).run Ya (d.tp T)=.ok (.enter 85 #[.agg #[.slice ybq ps.length yc,lim],.slice pbq l.length pc,.slice vbq wl.length vc]) (d.tp T))(q:aD 0 d.heap.size d (.slice ybq ps.length yc) ps)(O:bj d (.slice ybq ps.length yc))(s:aj 0 d.heap.size d (.slice pbq l.length pc) l)(Q:bj d (.slice pbq l.length pc))(r:aj 0 d.heap.size d (.slice vbq wl.length vc) wl)(P:bj d (.slice vbq wl.length vc))(h0:br d 0)(L:ps.length<=5)(z:∀p∈ps,0<=p.mn/\p.mn<=p.mx/\p.mx<=1000)(Z:∀y∈l,0<=y/\y<ps.length)(R:l.length<=1000)(t:∀y∈wl,0<=y/\y<ps.length)(M:∀j,j<=wl.length->(fT ps (wl.take j)).length<=900000)(x:∀u (v:OI),(v=NB↔oU ps l wl)->(d.tp u.tape).gb u Ns->EL Ya NV f Post W (G ((b.at a (.inRegion e (i::n)::k)).finish (.bool v)) I) u) :EL Ya NV f Post W (G (b.at a (.inRegion e (i::n)::k)) I) d:=by
 have H:Bc ps wl<=900000:=by have:=M wl.length (Nv _);rwa [Ps] at this
 exact EL.doubtful D A B C F hb X Y U (N:=Bc ps wl) (c:=tH ps wl) w q O s Q r P h0 L (FR (λp h=>by have:=z p h;omega) _) (FR (λp h=>by have:=z p h;omega) _) (JP ps z wl) Z R (λy S=>by have:=t y S;omega) H
  (Ly ⟨_,rfl,q⟩ r (Nv _) L t z M) λu v V hg=>x u v V hg
end
end
section
open Go Go.RowKit Go.Co
section
variable{lo hi O:NA}{w w':Nt}{v:Ny}
def ie{i b:NJ Ny}{e d:NZ}{f g:NA × NA}{B:NA}(h:w.heap[B]?=Nq (.cells i e f))(c:w.heap[O]?=Nq (.cells b d g))(a:e≠d):B≠O:=by
 rintro rfl;rw[h] at c;cases c;exact a rfl
def aj.kept_ne{l:Nu NH}(h:aj lo hi w v l)(i:w.gb w' (Nq O)){b:NJ Ny}{n:NA × NA}(j:w.heap[O]?=Nq (.cells b 29 n)):aj lo hi w' v l:=by
 obtain⟨base,c,rfl,g,f⟩:=h;refine⟨base,c,rfl,g,λa=>?_⟩;have⟨B,o,t,k,s,r,q,d,p⟩:=f a;exact⟨B,o,t,k,s,r,q,blk i (λe=>ie d j (by decide) (by cases e;rfl)) d,p⟩
def aD.kept_ne{l:Nu Par}(h:aD lo hi w v l)(i:w.gb w' (Nq O)){b:NJ Ny}{n:NA × NA}(j:w.heap[O]?=Nq (.cells b 29 n)):aD lo hi w' v l:=by
 obtain⟨base,c,rfl,g,f⟩:=h;refine⟨base,c,rfl,g,λa=>?_⟩;have⟨B,o,t,k,s,r,q,d,p⟩:=f a;exact⟨B,o,t,k,s,r,q,blk i (λe=>ie d j (by decide) (by cases e;rfl)) d,p⟩
def br.kept_ne{B:NA}(h:br w B)(i:w.gb w' (Nq O)){a:NO OX}{n c:NA}{j:NA × NA}(b:w.heap[O]?=Nq (.cells #[.slice a n c] 29 j)):br w' B:=by
 obtain⟨l,e,f,g,d⟩:=h;refine⟨l,e,f,blk i (λe=>?_) g,d⟩;cases e;rw[g] at b;cases b;have⟨k,m,e⟩:=d 0 _ rfl;cases e
def bj.kept_ne(h:bj w v)(b:w.gb w' (Nq O)){a:NO OX}{n c:NA}{f:NA × NA}(d:w.heap[O]?=Nq (.cells #[.slice a n c] 29 f)):bj w' v:=λg m k e=>br.kept_ne (h g m k e) b d
end
end
section
open Go Go.RowKit Go.Co Go.Sim Go.Conc Go.ConcN
structure kF(w:Nt)(O Y L:NA)(yb:NO OX)(ps:Nu Par)(yc:NA)(lim:NH)(pb:NO OX)(l:Nu NH)(pc:NA):Prop where
 out:∃b n c,w.heap[O]?=Nq (.cells #[.slice b n c] 29 (0,0))
 ya:w.heap[Y]?=Nq (.cells #[.slice yb ps.length yc,lim] 91 (0,0))
 pa:w.heap[L]?=Nq (.cells #[.slice pb l.length pc] 29 (0,0))
 ne:O≠L
 pars:aD 0 w.heap.size w (.slice yb ps.length yc) ps
 yi:bj w (.slice yb ps.length yc)
 ints:aj 0 w.heap.size w (.slice pb l.length pc) l
 pi:bj w (.slice pb l.length pc)
 h0:br w 0
def kF.kept{w w':Nt}{O Y L:NA}{q:NO OX}{r:Nu Par}{p:NA}{i:NH}{t:NO OX}{l:Nu NH}{s:NA}(h:kF w O Y L q r p i t l s)(a:w.gb w' (Nq O))(u:∃b n c,w'.heap[O]?=Nq (.cells #[.slice b n c] 29 (0,0))):kF w' O Y L q r p i t l s:=by
 have⟨b,n,c,d⟩:=h.out;refine⟨u,blk a (λe=>ie h.ya d (by decide) (by cases e;rfl)) h.ya,blk a (λe=>h.ne (by cases e;rfl)) h.pa,h.ne,(h.pars.kept_ne a d).mono (Nv _) a.size,h.yi.kept_ne a d,(h.ints.kept_ne a d).mono (Nv _) a.size,h.pi.kept_ne a d,?_⟩;have⟨x,e,g,o,j⟩:=h.h0;refine⟨x,e,g,blk a (λe=>?_) o,j⟩;cases e;rw[d] at o;cases o;have⟨k,m,e⟩:=j 0 _ rfl;cases e
def kF.tp{w:Nt}{O Y L:NA}{c:NO OX}{d:Nu Par}{b:NA}{a:NH}{g:NO OX}{l:Nu NH}{e:NA}(h:kF w O Y L c d b a g l e)(T:NA->Qe->NA):kF (w.tp T) O Y L c d b a g l e :=
 ⟨h.out,h.ya,h.pa,h.ne,h.pars,h.yi,h.ints,h.pi,h.h0⟩
def Tp.x85:Ya.funcs[85]?=Nq { RX with body:=Nq (.exit 0) }:=by kernel_rfl
section
variable[J:JunkSet]{f:Pl}{Post:Ny->Nt->Prop}{W:Nt}
def EC.of_body1(D:Two Ya NV){d:Pl}{fn:Func}{c0:Qs}{b:NJ Ny}{j:Nt}{R:Ny->Nt->Prop}{t:NA}(n:Ya.funcs[d]?=Nq fn)(l:Tryz.prog.funcs[d]?=Nq fn)(i:fn.body=Nq c0)(k:fn.results=#[.tmp t])(h:∀e,Bot f e->(∀g a u,R (g.getD t NG) u->EL Ya NV f Post W (G { (Oq d).at ⟨g,[]⟩ a with mode:=.returning } e) u) ->EL Ya NV f Post W (G ((Oq d).at ⟨b++OY (fn.ntmps - b.size) NG,[]⟩ [.code c0]) e) j):EC Ya NV f Post W d b j R :=
 EC.of_body D n l i λe o c=>h e o λg a u p=>c ⟨g,[]⟩ a u _ rfl (λT=>UE k _ _ _) p
structure Iv(ps:Nu Par)(l wl:Nu NH):Prop where
 n5:ps.length<=5
 hp:∀p∈ps,0<=p.mn/\p.mn<=p.mx/\p.mx<=1000
 hl:∀y∈l,0<=y/\y<ps.length
 ll:l.length<=1000
 hwl:∀y∈wl,0<=y/\y<ps.length
 wl1:wl.length<=1000
 hN:∀j,j<=wl.length->(fT ps (wl.take j)).length<=900000
def Nk(D:Two Ya NV)(b7:JunkSet.okf 137)(b8:∀i,¬ JunkSet.jk i)(b9:Ya.inits.idxOf? f=Ns)(c8:∃g,Ya.funcs[f]?=Nq g/\Tryz.prog.funcs[f]?=Nq g){wq:Nt}{O Y L:NA}{yb:NO OX}{ps:Nu Par}{yc:NA}{lim:NH}{pb:NO OX}{l:Nu NH}{pc:NA}(h:kF wq O Y L yb ps yc lim pb l pc){B:NO OX}{vc:NA}{wl:Nu NH}(hw:aj 0 wq.heap.size wq (.slice B wl.length vc) wl)(a9:bj wq (.slice B wl.length vc))(C:wl≠[]\/(OS B wl.length vc)=.slice Ns 0 0)(F:Iv ps l wl) :EC Ya NV f Post W 83 #[.slice B wl.length vc,.pointer (Nq O),.pointer (Nq Y),.pointer (Nq L)] wq λv u=>∃d:OI,v=.bool (!d)/\(d=NB↔oU ps l wl)/\(wq.tp u.tape).gb u (Nq O)/\∃b n c,u.heap[O]?=Nq (.cells #[.slice b n c] 29 (0,0))/\aj 0 u.heap.size u (.slice b n c) wl:=by
 refine EC.of_body1 D (fn:=Tryz.f83) (c0:=Tryz.f83.body.getD .skip) (t:=5) Tp.x83 Tryz.func83 (by kernel_rfl) rfl λcs q r=>?_;have HR:=Np r;clear r;simp only[Tryz.f83,NK];have p:Ya.funcs[(Oq 83).fn]?=Tryz.prog.funcs[(Oq 83).fn]?:=bG 83 (by decide);walk_nrm;refine EL.sp D q p λT=>?_;go_wp2;refine EL.tape (wq:=wq) ?_ T;refine EL.sp D q p λT=>?_;have⟨ob,on,oc,S⟩:=h.out;have HO:=Np S;have P:(wq.tp T).frozen? ⟨O,0,Ns⟩=NC:=aA S;have Q:(wq.tp T).cell? O=Nq (.slice ob on oc):=aa S rfl;have M:O<(wq.tp T).heap.size:=(Nz.1 S).1;clear S;go_wp2;refine(oX 0 wq.heap.size _ wl (wq.tp T) hw (Nv _) C F.wl1).mono ?_;rintro e A ⟨v',rfl,j,V⟩;have d5:=j.cl Q;have N:=(j.frozen_far _ M (by simp)).t P;have s:=(bk j HO);have⟨Z,H⟩:=aQ j V;have b6:=j.size;have X:=Np s;clear j V s;obtain⟨z,y,rfl,-,-⟩:=H.out.cell;go_wp2;have o:(wq.tp T).gb (A.setCell O (.slice z wl.length y)) (Nq O):=(Z.but (Nq O)).t (an A O 0 _);have G:(A.setCell O (.slice z wl.length y)).heap[O]?=Nq (.cells #[.slice z wl.length y] 29 (0,0)):=by rw[ar X];rfl
 have U:aj 0 (A.setCell O (.slice z wl.length y)).heap.size (A.setCell O (.slice z wl.length y)) (.slice z wl.length y) wl :=
  (H.kept (an A O 0 _) (λR e=>by cases e;exact .inl M)).mono (OE _) (by simp)
 generalize A.setCell O (.slice z wl.length y)=u at o G U ⊢;clear d5 N P Q b6 Z H X;have x:kF u O Y L yb ps yc lim pb l pc:=kF.kept (h.tp T) o ⟨_,_,_,G⟩;have b0:aj 0 u.heap.size u (.slice B wl.length vc) wl:=(aj.kept_ne (w:=wq.tp T) hw o HO).mono (Nv _) o.size;have I:bj u (.slice B wl.length vc):=bj.kept_ne (w:=wq.tp T) a9 o HO;show EL _ _ _ _ _ _ _;refine EL.seq D q p ?_;refine EL.region D q p ?_;simp only[Ox,NQ,NU,Oh,Oc,Oo,Pf];refine EL.list D q p [0,1,2] [_,_,_] (rest:=[3,4,5]) rfl λT3=>?_;have c1:(u.tp T3).cell? Y=Nq (.slice yb ps.length yc):=aa x.ya rfl;have c2:(u.tp T3).cell? ⟨Y,1,Ns⟩=Nq (.int .i64 lim):=aa x.ya rfl;have c3:(u.tp T3).cell? L=Nq (.slice pb l.length pc):=aa x.pa rfl;go_wp2;refine EL.tape (wq:=u) ?_ T3;refine EL.doubt D b7 b8 b9 c8 q p (ybq:=yb) (pbq:=pb) (vbq:=B) (ps:=ps) (l:=l) (wl:=wl) (yc:=yc) (pc:=pc) (vc:=vc) (lim:=lim) rfl rfl (λT4=>by rw[TI (f:=85) rfl Tp.x85 (by kernel_rfl) rfl];walk_nrm) x.pars x.yi x.ints x.pi b0 I x.h0 F.n5 F.hp F.hl F.ll F.hwl F.hN λu2 d c9 a=>?_;rw[Qw];walk_nrm;refine EL.list D q p [4,5] [_,_] (rest:=[]) rfl λT5=>?_;go_wp2;refine EL.tape (wq:=u2) ?_ T5;refine EL.region_end D q p ?_;refine EL.retS D q p ?_;refine HR _ _ u2 ⟨d,rfl,c9,?_,z,wl.length,y,?_,?_⟩
 ·exact⟨a.os.trans o.os,rfl,a.output.trans o.output,NM o.size a.size,λk hk C=>(a.block k (NX hk o.size) (by simp)).t (o.block k hk C)⟩
 ·exact bk a G
 ·exact(aj.kept (w:=u.tp u2.tape) U a (by simp)).mono (Nv _) a.size
end
end
section
open Go Go.RowKit Go.Co Go.Sim Go.Conc Go.ConcN
def Kh(x:NJ Ny)(h:x.size=41):∃Y X V U T S R Q P O N M L I H G F D C B A z y w v u s r q p o n l k j i g d c b a,x=#[Y,X,V,U,T,S,R,Q,P,O,N,M,L,I,H,G,F,D,C,B,A,z,y,w,v,u,s,r,q,p,o,n,l,k,j,i,g,d,c,b,a]:=by
 have e:=lR x;rw[h] at e;exact⟨_,_,_,_,_,_,_,_,_,_,_,_,_,_,_,_,_,_,_,_,_,_,_,_,_,_,_,_,_,_,_,_,_,_,_,_,_,_,_,_,_,e.t rfl⟩
structure qf(w:Nt)(E Lv Gp O Y Lp:NA)(lb:NO OX)(lc:NA)(ws:Nu NH):Prop where
 en:w.heap[E]?=Nq (.cells #[.func (.func 83) #[] #[.pointer (Nq O),.pointer (Nq Y),.pointer (Nq Lp)]] 51 (0,0))
 ls:w.heap[Lv]?=Nq (.cells #[.slice lb ws.length lc] 29 (0,0))
 wsI:aj 0 w.heap.size w (.slice lb ws.length lc) ws
 gr:w.heap[Gp]?=Nq (.cells #[.func (.func 136) #[] #[.pointer (Nq E),.pointer (Nq Lv),.pointer (Nq Gp)]] 151 (0,0))
 neL:O≠Lv
def dp(p:Nu NH->OI):Nu (Nu NH)->Nu NH->OI × Nu NH
 | [],o=>(NC,o)
 | c::a,_=>if p c then(NB,c) else dp p a c
def tN(p:Nu NH->OI):∀(a b:Nu (Nu NH)) (o:Nu NH),dp p (a++b) o=if(dp p a o).1 then dp p a o else dp p b (dp p a o).2:=by
 intro a;induction a with
 | nil=>intro b o;simp[dp]
 | cons c a d=>
  intro b o;simp only[Oa,dp];by_cases h:p c=NB
  ·simp[h]
  ·simp only[if_neg h];exact d b c
def yU(w:Nt)(a b:NA)(e:NZ):a<=Sm w a b e:=by
 unfold Sm;simp only[Question.cut];omega
def Ey(z:NJ Ny)(a:bS z.toList)(b:0<z.size)(n:NA):bS (Qu z n).toList:=xg a b n
def yA{w:Nt}{l:Nu NH}{zs:NJ Ny}(g:bS zs.toList)(k:l.length<=1000000)(a:NA) :aj w.heap.size (w.drew.alloc (.cells ((l.map (Og .i64)).toArray++zs) 3)).heap.size (w.drew.alloc (.cells ((l.map (Og .i64)).toArray++zs) 3)) (.slice (Nq w.heap.size) l.length a) l /\bj (w.drew.alloc (.cells ((l.map (Og .i64)).toArray++zs) 3)) (.slice (Nq w.heap.size) l.length a):=by
 have b:(w.drew.alloc (.cells ((l.map (Og .i64)).toArray++zs) 3)).heap[w.heap.size]?=Nq (.cells ((l.map (Og .i64)).toArray++zs) 3 (0,0)):=NL w.drew _;refine⟨⟨_,a,rfl,by omega,λ_=>⟨w.heap.size,0,_,_,rfl,Nv _,?_,b,λi d=>?_⟩⟩,λo n c e=>?_⟩
 ·exact(Nz.1 b).1
 ·rw[Oc,Ua (by simpa using d)];simp[ND d]
 ·cases e;refine⟨_,_,_,b,λi v j=>?_⟩;have hm:=PR j;rcases Rm.1 hm with h | h
  ·simp only[Ro,Qp] at h;obtain⟨x,_,rfl⟩:=h;exact⟨_,_,rfl⟩
  ·exact g v (by simpa using h)
def FN{w:Nt}{A:NO OX}{L B:NA}{a:Nu NH}{x:NH}(z:NZ)(H:aj 0 w.heap.size w (.slice A a.length L) a)(M:w.cell? B=Nq (.int .i64 x))(R:a.length<=1000) :∃c p,(Rj #[29,29] z #[.slice A a.length a.length,.slice (Nq B) 1 1]).run Ya w=.ok (.slice (Nq w.heap.size) (a.length+1) c) p/\a.length+1<=c/\w.gb p Ns /\aj w.heap.size p.heap.size p (.slice (Nq w.heap.size) (a.length+1) c) (a++[x])/\bj p (.slice (Nq w.heap.size) (a.length+1) c):=by
 have⟨F,y,u,h,s⟩:=PM Tp.info3p;have g:∀j v,([Og .i64 x]:Nu Ny)[j]?=Nq v->w.cell? ((⟨B,0,Ns⟩:OX).add j)=Nq v:=λj v k=>by
  have:j=0:=by have:=(NT.1 k).1;simp at this;omega
  subst this;simp at k;subst k;simpa[Addr.add] using M
 have r:bS (Og .i64 0).cells.toList:=λv G=>by simp[Vr] at G;exact⟨_,_,G⟩
 have q:(a++[x]).length=a.length+1:=by simp
 cases A with
 | none=>
  have Q:a=[]:=by
   refine OK λC=>?_;obtain⟨base,c,e,_,n⟩:=H;cases e;have⟨B,o,T,S,D,_⟩:=n C;cases D
  subst Q;have n:=run_append_nil (P:=Ya) w 29 z 3 F _ Tp.und29' y u ⟨B,0,Ns⟩ 1 1 [Og .i64 x] (by rw[h];rfl) g (by omega) (by omega) (by rw[s];omega);have:=yA (w:=w) (l:=[x]) (zs:=Qu (Og .i64 0).cells (Sm w 1 0 3 - 1)) (Ey _ r (by decide) _) (by simp) (Sm w 1 0 3);exact⟨_,_,n,yU _ _ _ _,(ai w Ns).t (Nr _ _ Ns),this.1,this.2⟩
 | some b=>
  have i:∀j v,(a.map (Og .i64))[j]?=Nq v->w.cell? (b.add j)=Nq v:=λj v k=>by
   have d:j<a.length:=by simpa using(NT.1 k).1
   have⟨base,c,e,_,N⟩:=H.cell;cases e;have⟨U,o,D,_,_,_,O⟩:=N (by intro e;rw[e] at d;simp at d);cases D;have I:=O j d;rw[Pa,ND d] at k;rw[ND d] at I;cases k;exact dU I
  have n:=run_append_grow (P:=Ya) w 29 z 3 F _ Tp.und29' y u b a.length a.length (a.map (Og .i64)) (by rw[h];simp) i ⟨B,0,Ns⟩ 1 1 [Og .i64 x] (by rw[h];rfl) g (by omega) (by omega) (growslice_fits (by omega) (by rw[s];omega));have:=yA (w:=w) (l:=a++[x]) (zs:=Qu (Og .i64 0).cells (Sm w (a.length+1) a.length 3 - (a.length+1))) (Ey _ r (by decide) _) (by simp;omega) (Sm w (a.length+1) a.length 3);have e:(a.map (Og .i64)).toArray++[Og .i64 x].toArray=((a++[x]).map (Og .i64)).toArray:=by simp
  rw[e] at n;rw[q] at this;exact⟨_,_,n,yU _ _ _ _,(ai w Ns).t (Nr _ _ Ns),this.1,this.2⟩
section
variable[J:JunkSet]{f:Pl}{Post:Ny->Nt->Prop}{W:Nt}
noncomputable def sub:Nu NA->Qs->Qs
 | 0::l,.seq a _=>sub l a
 | 1::l,.seq _ b=>sub l b
 | 0::l,.cond _ a _=>sub l a
 | 1::l,.cond _ _ b=>sub l b
 | 0::l,.block _ c=>sub l c
 | 0::l,.loop c=>sub l c
 | _,c=>c
def CO{d:NJ PE}{o:PE}{a:QF}{w:Nt}{K:QF->Nt->Prop}{Q:Ux->QF->Nt->Prop}{E:Prop}(g:o.guard=Ns)(s x:OQ)(e:o.op=.call { callee:=.builtin .append,args:=#[s,x],argTypes:=#[29,29] }){nb:NO OX}{nc B:NA}{now:Nu NH}{y:NH}(hs:a.eval s=.slice nb now.length now.length)(hx:a.eval x=.slice (Nq B) 1 1)(hN:aj 0 w.heap.size w (.slice nb now.length nc) now)(hy:w.cell? B=Nq (.int .i64 y))(hl:now.length<=1000)(h:∀b c,now.length+1<=b->w.gb c Ns->aj w.heap.size c.heap.size c (.slice (Nq w.heap.size) (now.length+1) b) (now++[y])->bj c (.slice (Nq w.heap.size) (now.length+1) b)->K (a.put o.dst (.slice (Nq w.heap.size) (now.length+1) b)) c) :if Oy o (PH d a.tmps)=NB then Oper.wp Ya o a w K Q else E:=by
 rw[if_pos (by simp[Oy,g])];have⟨b,c,i,n,l,k,j⟩:=FN o.type hN hy hl;unfold Oper.wp QN;simp only[e,resolve,invoke,builtin,PF,SZ,PC,SH,Qj,Sx,hs,hx,i];exact h b c n l k j
noncomputable def Aq:Qs->NJ PE
 | .region _ ops _=>ops
 | _=>#[]
def Na(D:Two Ya NV){cs:Nu NS}{k:Nu Si}(S:Bot f cs){u:Nt}{E Lv Gp O Y Lp LB lo:NA}{nb:NO OX}{lc nc i m:NA}{ws now:Nu NH}{x:NH}{y1 y3 y6 y7 y8 y9 y11 y12 y13 y14 y15 y16 y17 y18 y19 y20 y21 y22 y23 y24 y25 y26 y27 y28 y29 y30 y31 y32 y33 y34 y35 y36 y37 y38 y39 y40:Ny}(A:qf u E Lv Gp O Y Lp (Nq ⟨LB,lo,Ns⟩) lc ws)(z:aj 0 u.heap.size u (.slice nb now.length nc) now)(Q:now.length<=nc)(hi:i<ws.length)(r:u.cell? ⟨LB,lo+i,Ns⟩=Nq (.int .i64 x))(hm:m<=1000)(R:now.length<=1000)(hw:ws.length<=1000)(b:∀g a d,now.length+1<=a->(u.tp d.tape).gb d Ns->aj 0 d.heap.size d (.slice (Nq ⟨g,0,Ns⟩) (now.length+1) a) (now++[x])->bj d (.slice (Nq ⟨g,0,Ns⟩) (now.length+1) a) ->EL Ya NV f Post W (G ((Oq 136).at ⟨#[(.slice nb now.length nc),y1,(.int .i64 (m+1:NA)),y3,(.pointer (Nq Lv)),(.pointer (Nq Gp)),y6,y7,y8,y9,(.int .i64 i),y11,y12,y13,y14,y15,y16,y17,y18,y19,y20,y21,y22,(.func (.func 136) #[] #[.pointer (Nq E),.pointer (Nq Lv),.pointer (Nq Gp)]),(.slice nb now.length nc),(.slice nb now.length nc),(.int .i64 now.length),(.slice nb now.length nc),(.int .i64 now.length),(.slice nb now.length now.length),(.slice (Nq ⟨LB,lo,Ns⟩) ws.length lc),(.int .i64 i),(.pointer (Nq ⟨LB,lo+i,Ns⟩)),(.int .i64 x),(.slice (Nq u.heap.size) 1 1),(.slice (Nq ⟨g,0,Ns⟩) (now.length+1) a),(.int .i64 i),(.int .i64 (i+1:NA)),(.int .i64 (m+1:NA)),(.int .i64 m),y40],[]⟩ (.inRegion (Aq (sub [1,1,0,1,0,0,1,0,0,0] (Tryz.f136.body.getD .skip))) [17]::k)) cs) d) :EL Ya NV f Post W (G ((Oq 136).at ⟨#[(.slice nb now.length nc),y1,(.int .i64 (m+1:NA)),y3,(.pointer (Nq Lv)),(.pointer (Nq Gp)),y6,y7,y8,y9,(.int .i64 i),y11,y12,y13,y14,y15,y16,y17,y18,y19,y20,y21,y22,y23,y24,y25,y26,y27,y28,y29,y30,y31,y32,y33,y34,y35,y36,y37,y38,y39,y40],[]⟩ (.code (sub [1,1,0,1,0,0,1,0,0,0] (Tryz.f136.body.getD .skip))::k)) cs) u:=by
 have P:Ya.funcs[(Oq 136).fn]?=Tryz.prog.funcs[(Oq 136).fn]?:=bG 136 (by decide);simp only[Vf,NK,sub,Aq] at b ⊢;have Z:=Np b;clear b;refine EL.region_chain D S P 17 [17] (by kernel_rfl) (by kernel_rfl) (by kernel_rfl) (by kernel_rfl) λT=>?_;generalize y:cK _ 17=ops';simp only[cK,List.take_succ_cons,List.take_zero,Oi,OH,Qj,Sx,Oa,On,eD] at y;subst y;have F:(u.tp T).cell? Gp=Nq (.func (.func 136) #[] #[.pointer (Nq E),.pointer (Nq Lv),.pointer (Nq Gp)]):=aa A.gr rfl;have C:(u.tp T).cell? Lv=Nq (.slice (Nq ⟨LB,lo,Ns⟩) ws.length lc):=aa A.ls rfl;have B:(u.tp T).cell? ⟨LB,lo+i,Ns⟩=Nq (.int .i64 x):=r;have H:=Np (show aj 0 (u.tp T).heap.size (u.tp T) (.slice nb now.length nc) now from z);clear z r;have N:IntKind.i64.wrap ((i:NH)+1)=((i+1:NA):NH):=by simp[Ui];omega
 have M:IntKind.i64.wrap (m:NH)=(m:NH):=by simp only[Ui];omega
 change wpAny _ _ _ _ _ _ _ (World.drew (u.tp T));generalize s:u.tp T=v at F C B H ⊢;have X:=Np s;clear s;have c:=Np (show ∀w,v.gb w Ns->w.cell? Gp=Nq (.func (.func 136) #[] #[.pointer (Nq E),.pointer (Nq Lv),.pointer (Nq Gp)])/\w.cell? Lv=Nq (.slice (Nq ⟨LB,lo,Ns⟩) ws.length lc)/\w.cell? ⟨LB,lo+i,Ns⟩=Nq (.int .i64 x) from λw h=>⟨h.cl F,h.cl C,h.cl B⟩);have q:v.gb v.drew Ns:=ai v Ns;have e:=q.t (Nr v.drew (.cells #[x] 3) Ns);refine MD 17 (λw=>w.cell? Gp=Nq (.func (.func 136) #[] #[.pointer (Nq E),.pointer (Nq Lv),.pointer (Nq Gp)])/\w.cell? Lv=Nq (.slice (Nq ⟨LB,lo,Ns⟩) ws.length lc)/\w.cell? ⟨LB,lo+i,Ns⟩=Nq (.int .i64 x)) (by kernel_rfl) (c _ q) (λhHeld=>?_);simp only[NQ,NU,Oh,OV,Oc,Oj,Ol,Ow,On,Oa];refine tk 0 (h:=tk 1 (h:=tk 2 (h:=tk 3 (h:=tk 4 (h:=tk 5 (h:=tk 6 (h:=tk 7 (h:=tk 8 (h:=tk 9 (h:=tk 10 (h:=tk 13 (h:=tk 14 (h:=tk 15 (h:=tk 16 (h:=?_)))))))))))))));try go_frame
 refine rdc 11 λK j=>?_;go_simp;refine j.out _ _ (c _ e) (λhHeld=>?_);clear j K;try go_frame
 refine rdc 12 λK j=>?_;refine CO rfl (.tmp 29) (.tmp 34) rfl (nc:=nc) rfl rfl ((H.kept e).mono (Nv _) e.size) (il _ _ _ _) R (λa I L p o n=>?_);refine j.out _ _ (c _ (e.t p)) (λhHeld=>?_);clear j K;try go_frame
 refine⟨by kernel_rfl,?_⟩;simp only[Oi,OH];have l:=Np (e.t p);rw[show(v.alloc (.cells #[x] 3)).drew.heap.size=v.heap.size+1 from NW _ _] at o n;have⟨V,U⟩:=aQ o n;clear p o n hHeld q e;go_wp2;obtain rfl:=X.out;exact Z _ a I L ⟨l.os,rfl,l.output,l.size,l.block⟩ (V.mono (OE _) (Nv _)) U
end
end
section
open Go Go.RowKit Go.Co Go.Sim Go.Conc Go.ConcN
def jM{P:NR}{a:QF}{w:Nt}{o:PE}{e:OQ}{f:Pl}{b:Func}{args:NJ OQ}{d:NJ NZ}{dO:NJ Ny}(c:o.op=.call { callee:=.value e,args,argTypes:=d })(hv:a.eval e=.func (.func f) #[] dO)(hf:P.funcs[f]?=Nq b)(hname:(b.name == "runtime.NumGoroutine")=NC)(hb:b.body.isNone=NC):(QN a.eval o).run P w=.ok (.enter f (args.map a.eval++dO)) w:=by
 have h:¬ b.name = "runtime.NumGoroutine" := by simpa using hname
 have g:¬ b.body=Ns:=by cases hx:b.body<;>simp_all
 unfold QN;simp[c,resolve,Deferred.ofValue,invoke,callFunc,hf,h,g,hv]
def Out(w:Nt)(O:NA)(o:Nu NH):Prop:=∃b n c,w.heap[O]?=Nq (.cells #[.slice b n c] 29 (0,0))/\aj 0 w.heap.size w (.slice b n c) o
noncomputable def gy(a:Nu Par)(l c:Nu NH):OI:=@decide (¬ oU a l c) (Classical.propDecidable _)
def xJ{a:Nu Par}{l c:Nu NH}{d:OI}(h:d=NB↔oU a l c):gy a l c=!d:=by
 unfold gy;cases d
 ·simpa using λe=>Bool.false_ne_true (h.2 e)
 ·simpa using h.1 rfl
def qf.kept{w w':Nt}{E k o O Y l:NA}{j:NO OX}{i:NA}{g:Nu NH}(h:qf w E k o O Y l j i g)(a:w.gb w' (Nq O)){b:NO OX}{n c:NA}(d:w.heap[O]?=Nq (.cells #[.slice b n c] 29 (0,0))):qf w' E k o O Y l j i g :=
 ⟨blk a (λe=>ie h.en d (by decide) (by cases e;rfl)) h.en,blk a (λe=>h.neL (by cases e;rfl)) h.ls,(h.wsI.kept_ne a d).mono (Nv _) a.size,blk a (λe=>ie h.gr d (by decide) (by cases e;rfl)) h.gr,h.neL⟩
def qf.tp{w:Nt}{E d g O Y e:NA}{c:NO OX}{b:NA}{a:Nu NH}(h:qf w E d g O Y e c b a)(T:NA->Qe->NA):qf (w.tp T) E d g O Y e c b a:=⟨h.en,h.ls,h.wsI,h.gr,h.neL⟩
def gb{w u v:Nt}{r:NO NA}(h:(w.tp u.tape).gb u r)(k:(u.tp v.tape).gb v r):(w.tp v.tape).gb v r :=
 ⟨k.os.trans h.os,rfl,k.output.trans h.output,NM h.size k.size,λi b a=>(k.block i (NX b h.size) a).t (h.block i b a)⟩
def Lk{w u:Nt}(r:NO NA)(h:(w.tp u.tape).gb u Ns):(w.tp u.tape).gb u r:=h.but r
def Out.kept{w u:Nt}{O:NA}{o:Nu NH}(h:Out w O o)(a:(w.tp u.tape).gb u Ns):Out u O o:=by
 obtain⟨b,n,c,e,d⟩:=h;exact⟨b,n,c,bk a e,(aj.kept (w:=w.tp u.tape) d a (by simp)).mono (Nv _) a.size⟩
def kF.gr{w u:Nt}{O Y L:NA}{e:NO OX}{g:Nu Par}{d:NA}{a:NH}{j:NO OX}{l:Nu NH}{i:NA}{o:Nu NH}(h:kF w O Y L e g d a j l i)(p:(w.tp u.tape).gb u (Nq O))(k:Out u O o):kF u O Y L e g d a j l i:=by
 obtain⟨b,n,c,q,-⟩:=k;exact(h.tp _).kept p ⟨b,n,c,q⟩
def qf.gw{w u:Nt}{E g j O Y i:NA}{e:NO OX}{d:NA}{a o:Nu NH}(h:qf w E g j O Y i e d a)(l:(w.tp u.tape).gb u (Nq O))(k:Out w O o):qf u E g j O Y i e d a:=by
 obtain⟨b,n,c,p,-⟩:=k;exact(h.tp _).kept l (b:=b) (n:=n) (c:=c) p
def aj.gr{w u:Nt}{O:NA}{v:Ny}{l o:Nu NH}(h:aj 0 w.heap.size w v l)(a:(w.tp u.tape).gb u (Nq O))(d:Out w O o):aj 0 u.heap.size u v l:=by
 obtain⟨b,n,c,e,-⟩:=d;exact(aj.kept_ne (w:=w.tp u.tape) h a e).mono (Nv _) a.size
def GrR(g:Nu Par)(l d:Nu NH)(O m:NA)(c:Nu NH)(a:NA)(h:Nu NH)(e:Nt)(v:Ny)(u:Nt):Prop :=
 ∃b o,dp (gy g l) (cM d m c a) h=(b,o)/\v=.bool b/\(e.tp u.tape).gb u (Nq O)/\Out u O o
def nX(w:Nt)(r:NO NA):(w.tp w.tape).gb w r:=⟨rfl,rfl,rfl,Nv _,λ_ _ _=>rfl⟩
section
variable[J:JunkSet]{f:Pl}{Post:Ny->Nt->Prop}{W:Nt}
def My(D:Two Ya NV)(k6:JunkSet.okf 137)(l4:∀i,¬ JunkSet.jk i)(l5:Ya.inits.idxOf? f=Ns)(l7:∃g,Ya.funcs[f]?=Nq g/\Tryz.prog.funcs[f]?=Nq g){M:Nu Par}{l ws:Nu NH}{yb pb lb:NO OX}{yc pc lc E Lv Gp O Y Lp:NA}{h8:NH}(k0:ws.length<=1000)(c8:∀c:Nu NH,(∀y∈c,y∈ws)->c.length<=ws.length->Iv M l c) :∀(m:NA) (now:Nu NH) (p:NA) (nb:NO OX) (nc:NA) (wq:Nt) (N:Nu NH),m+now.length<=ws.length->(∀y∈now,y∈ws)->qf wq E Lv Gp O Y Lp lb lc ws->kF wq O Y Lp yb M yc h8 pb l pc->Out wq O N ->aj 0 wq.heap.size wq (.slice nb now.length nc) now->bj wq (.slice nb now.length nc)->now.length<=nc->(now≠[]\/OS nb now.length nc=.slice Ns 0 0)->p<=1000 ->EC Ya NV f Post W 136 #[.slice nb now.length nc,p,m,.pointer (Nq E),.pointer (Nq Lv),.pointer (Nq Gp)] wq (GrR M l ws O m now p N wq):=by
 have j:Ya.funcs[(Oq 136).fn]?=Tryz.prog.funcs[(Oq 136).fn]?:=bG 136 (by decide);intro m;induction m with
 | zero=>
  intro now p nb nc wq N b9 w hG hW hO hN d7 b8 b7 l8;refine EC.of_body1 D (fn:=Vf) (c0:=Tryz.f136.body.getD .skip) (t:=9) Tp.x136 ZS (by kernel_rfl) rfl λcs a r=>?_;have HR:=Np r;clear r;simp only[Vf,NK];walk_nrm;refine EL.sp D a j λT=>?_;go_wp2;refine EL.tape (wq:=wq) ?_ T;refine EL.seq D a j ?_;refine EL.sp D a j λT=>?_;go_wp2;refine EL.tape (wq:=wq) ?_ T;refine EL.cond D a j NB (by rfl) ?_;simp only[if_true];refine EL.seq D a j ?_;refine EL.region D a j ?_;simp only[Ox,NQ,NU,Oh,Oc,Oo,Pf];have l9:=aa (o:=0) hG.en rfl;refine EL.list D a j [0,1] [_,_] (rest:=[2,3]) rfl λT=>?_;have c1:(wq.tp T).cell? E=Nq (.func (.func 83) #[] #[.pointer (Nq O),.pointer (Nq Y),.pointer (Nq Lp)]):=l9;go_wp2;refine EL.tape (wq:=wq) ?_ T;refine EL.enter D a j (fk:=83) (args:=#[.slice nb now.length nc,.pointer (Nq O),.pointer (Nq Y),.pointer (Nq Lp)]) rfl rfl (λT=>by rw[jM (f:=83) rfl rfl Tp.x83 (by kernel_rfl) rfl];walk_nrm) (bG 83 (by decide)) ?_;refine Nk D k6 l4 l5 l7 hW hN d7 b7 (c8 now w (by omega)) _ cs a j λv u hR=>?_;obtain⟨d,rfl,Z,H,b,n,c,k8,k7⟩:=hR;rw[Qw];walk_nrm;refine EL.list D a j [3] [_] (rest:=[]) rfl λT=>?_;go_wp2;refine EL.tape (wq:=u) ?_ T;refine EL.region_end D a j ?_;refine EL.retS D a j ?_;refine HR _ _ u ⟨!d,now,?_,rfl,H,b,n,c,k8,k7⟩;simp only[cM,dp,xJ Z];cases d<;>rfl
 | succ m ih=>
  intro now p nb nc wq N b9 w hG hW hO hN d7 b8 b7 l8;refine EC.of_body1 D (fn:=Vf) (c0:=Tryz.f136.body.getD .skip) (t:=9) Tp.x136 ZS (by kernel_rfl) rfl λcs a r=>?_;have HR:=Np r;clear r;have v2:((m:NH)+1 == 0)=NC:=by
   rw[beq_eq_false_iff_ne];omega
  have Q:∀(d:NA) (i:NA) (z:NJ Ny) (u:Nt) (o:Nu NH),d=ws.length - i->i<=1001->z.size=41->z[0]?=Nq (.slice nb now.length nc)->z[2]?=Nq (.int .i64 (m+1:NA))->z[3]?=Nq (.pointer (Nq E))->z[4]?=Nq (.pointer (Nq Lv))->z[5]?=Nq (.pointer (Nq Gp))->z[10]?=Nq (.int .i64 i) ->
    (wq.tp u.tape).gb u (Nq O)->Out u O o->dp (gy M l) (cM ws (m+1) now p) N=dp (gy M l) (cM ws (m+1) now i) o ->
    EL Ya NV f Post W (G ((Oq 136).at ⟨z,[]⟩ (.code (sub [1,1,0,1,0,0] (Tryz.f136.body.getD .skip))::.inLoop (sub [1,1,0,1,0,0] (Tryz.f136.body.getD .skip))::.inBlock 0::.code (sub [1,1,1] (Tryz.f136.body.getD .skip))::[])) cs) u:=by
   intro d;induction d with
   | zero=>
    intro i z u o Z hi hz h0 h2 h3 h4 h5 C H B F;obtain⟨y0,y1,y2,y3,y4,y5,y6,y7,y8,y9,g8,y11,y12,y13,y14,y15,y16,y17,y18,y19,y20,y21,y22,y23,y24,y25,y26,y27,y28,y29,y30,y31,y32,y33,y34,y35,y36,y37,y38,y39,y40,rfl⟩:=Kh z hz;clear hz;simp at h0 h2 h3 h4 h5 C;subst h0 h2 h3 h4 h5 C;have e8:=Np F;have U:=aa (o:=0) (hG.gw H hO).ls rfl;have k9:¬ (i:NH)<(ws.length:NH):=by omega
    have v4:ws.length<=i:=by omega
    clear Z;simp only[Vf,NK,sub];refine EL.seq D a j ?_;refine EL.sp D a j λT=>?_;have c1:(u.tp T).cell? Lv=Nq (.slice lb ws.length lc):=U;go_wp2;refine EL.tape (wq:=u) ?_ T;refine EL.cond D a j NC (by rfl) ?_;simp only[if_false,OJ];refine EL.exit D a j rfl ?_;refine EL.sp D a j λT=>?_;go_wp2;refine EL.tape (wq:=u) ?_ T;refine EL.retS D a j ?_;refine HR _ _ u ⟨NC,o,?_,rfl,H,B⟩;rw[F,uP (by omega)];rfl
   | succ d R=>
    intro i z u o Z hi hz h0 h2 h3 h4 h5 C H B F;obtain⟨y0,y1,y2,y3,y4,y5,y6,y7,y8,y9,g8,y11,y12,y13,y14,y15,y16,y17,y18,y19,y20,y21,y22,y23,y24,y25,y26,y27,y28,y29,y30,y31,y32,y33,y34,y35,y36,y37,y38,y39,y40,rfl⟩:=Kh z hz;clear hz;simp at h0 h2 h3 h4 h5 C;subst h0 h2 h3 h4 h5 C;have e8:=Np F;have I:=hG.gw H hO;have U:=aa (o:=0) I.ls rfl;have s:i<ws.length:=by omega
    have k9:(i:NH)<(ws.length:NH):=by omega
    have HD:=Np Z;clear Z;have m6:=hN.gr H hO;have H6:=λk (a1 a3 a6 a7 a8 a9 s5 s4 s3 s2 s1 r9 r8 r7 r6 r5 r4 r3 q9 q8 q7 q6 q5 q0 p9 p8 p7 p6 p5 p4 p3 n9 n8 n7 n6 n4:Ny) LB P m9 x hx c3=>Na (f:=f) (Post:=Post) (W:=W) (cs:=cs) (k:=k) (y1:=a1) (y3:=a3) (y6:=a6) (y7:=a7) (y8:=a8) (y9:=a9) (y11:=s5) (y12:=s4) (y13:=s3) (y14:=s2) (y15:=s1) (y16:=r9) (y17:=r8) (y18:=r7) (y19:=r6) (y20:=r5) (y21:=r4) (y22:=r3) (y23:=q9) (y24:=q8) (y25:=q7) (y26:=q6) (y27:=q5) (y28:=q0) (y29:=p9) (y30:=p8) (y31:=p7) (y32:=p6) (y33:=p5) (y34:=p4) (y35:=p3) (y36:=n9) (y37:=n8) (y38:=n7) (y39:=n6) (y40:=n4) D a (u:=u) (E:=E) (Lv:=Lv) (Gp:=Gp) (O:=O) (Y:=Y) (Lp:=Lp) (LB:=LB) (lo:=P) (nb:=nb) (lc:=lc) (nc:=nc) (i:=i) (m:=m) (ws:=ws) (now:=now) (x:=x) m9 m6 b8 s hx (by omega) (by omega) k0 c3;simp only[Vf,NK,sub,Aq] at H6 R ⊢;have s9:=Np H6;clear H6;have s7:=Np R;clear R;refine EL.seq D a j ?_;refine EL.sp D a j λT=>?_;have c1:(u.tp T).cell? Lv=Nq (.slice lb ws.length lc):=U;go_wp2;refine EL.tape (wq:=u) ?_ T;refine EL.cond D a j NB (by rfl) ?_;simp only[if_true];refine EL.skip D a j ?_;refine EL.seq D a j ?_;refine EL.block D a j ?_;refine EL.seq D a j ?_;obtain⟨b1,v6,he,-,X⟩:=I.wsI.cell;cases he;obtain⟨LB,P,rfl,-,-,-,n2⟩:=X (by intro e;rw[e] at s;simp at s);have hx:=n2 i s;refine s9 _ _ _ _ _ _ _ _ _ _ _ _ _ _ _ _ _ _ _ _ _ _ _ _ _ _ _ _ _ _ _ _ _ _ _ _ _ LB P I _ hx ?_;intro g e7 u' q1 q2 q3 q4;generalize b6:ws[i]?.getD 0=x at hx q3 q4;have gU:(u.tp u'.tape).gb u' (Nq O):=Lk _ q2;have d5:=B.kept q2;have m8:=I.gw gU B;have m3:=(hW.gr H B).gr gU d5;have S:∀y∈now++[x],y∈ws:=by
     intro y hy;rcases Qb.1 hy with h | h
     ·exact w y h
     ·obtain rfl:=Pk.1 h;rw[<- b6,ND s];exact RL s
    have q:(now++[x]).length=now.length+1:=by simp
    have V:=ih (now++[x]) (i+1) (Nq ⟨g,0,Ns⟩) e7 u' o (by rw[q];omega) S m8 m3 d5 (by rw[q];exact q3) (by rw[q];exact q4) (by rw[q];exact q1) (.inl (by simp)) (by omega);rw[q] at V;have s8:=Np V;clear V;refine EL.enter D a j (fk:=136) (args:=#[.slice (Nq ⟨g,0,Ns⟩) (now.length+1) e7,.int .i64 (i+1:NA),m,.pointer (Nq E),.pointer (Nq Lv),.pointer (Nq Gp)]) rfl rfl (λT=>by rw[jM (f:=136) rfl rfl Tp.x136 (by kernel_rfl) rfl];walk_nrm) (bG 136 (by decide)) ?_;refine s8 _ cs a j λv u2 hR=>?_;obtain⟨b,o2,k5,rfl,l6,c9⟩:=hR;rw[Qw];walk_nrm;have A:(wq.tp u2.tape).gb u2 (Nq O):=gb (gb H gU) l6;have L:dp (gy M l) (cM ws (m+1) now p) N=if b=NB then(b,o2) else dp (gy M l) (cM ws (m+1) now (i+1)) o2:=by
     rw[e8,mP s,b6,tN,k5]
    refine EL.region_end D a j ?_;cases b with
    | true=>
     refine EL.cond D a j NB (by rfl) ?_;simp only[if_true];refine EL.sp D a j λT=>?_;go_wp2;refine EL.tape (wq:=u2) ?_ T;refine EL.retS D a j ?_;exact HR _ _ u2 ⟨NB,o2,L,rfl,A,c9⟩
    | false=>
     refine EL.cond D a j NC (by rfl) ?_;simp only[if_false,OJ];refine EL.skip D a j ?_;refine EL.inBlock D a j ?_;have v1:IntKind.i64.wrap ((i:NH)+1)=((i+1:NA):NH):=by simp[Ui];omega
     refine EL.piece D a j λT=>?_;go_wp2;refine EL.tape (wq:=u2) ?_ T;refine EL.inLoop D a j ?_;exact s7 (i+1) _ u2 o2 (by have:=HD.out;omega) (by omega) (by rfl) (by rfl) (by rfl) (by rfl) (by rfl) (by rfl) (by rfl) A c9 L
  simp only[Vf,NK,sub] at Q ⊢;have s6:=Np Q;clear Q;walk_nrm;refine EL.sp D a j λT=>?_;go_wp2;refine EL.tape (wq:=wq) ?_ T;refine EL.seq D a j ?_;refine EL.sp D a j λT=>?_;go_wp2;refine EL.tape (wq:=wq) ?_ T;refine EL.cond D a j NC (by rfl) ?_;simp only[if_false,OJ];refine EL.skip D a j ?_;refine EL.seq D a j ?_;refine EL.sp D a j λT=>?_;go_wp2;refine EL.tape (wq:=wq) ?_ T;refine EL.block D a j ?_;refine EL.loop D a j ?_;exact s6 (ws.length - p) p _ wq N rfl (by omega) (by rfl) (by rfl) (by rfl) (by rfl) (by rfl) (by rfl) (by rfl) (nX _ _) hO rfl
end
end
section
open Go Go.RowKit Go.Co Go.Sim Go.Conc Go.ConcN
def Ki(x:NJ Ny)(h:x.size=21):∃A z y w v u s r q p o n l k j i g d c b a,x=#[A,z,y,w,v,u,s,r,q,p,o,n,l,k,j,i,g,d,c,b,a]:=by
 have e:=lR x;rw[h] at e;exact⟨_,_,_,_,_,_,_,_,_,_,_,_,_,_,_,_,_,_,_,_,_,e.t rfl⟩
def tpg{w u:Nt}{T:NA->Qe->NA}{r:NO NA}(h:(w.tp T).gb u r):(w.tp u.tape).gb u r:=⟨h.os,rfl,h.output,h.size,h.block⟩
def GL{w u v:Nt}{O:NA}(h:(w.tp u.tape).gb u Ns)(k:(u.tp v.tape).gb v (Nq O))(b:w.heap.size<=O):(w.tp v.tape).gb v Ns :=
 ⟨k.os.trans h.os,rfl,k.output.trans h.output,NM h.size k.size,λi a _=>(k.block i (NX a h.size) (by intro e;cases e;exact absurd a (by show ¬ O<w.heap.size;omega))).t (h.block i a (by simp))⟩
def kF.knone{w u:Nt}{O Y L:NA}{e:NO OX}{g:Nu Par}{d:NA}{a:NH}{j:NO OX}{l:Nu NH}{i:NA}(h:kF w O Y L e g d a j l i)(k:(w.tp u.tape).gb u Ns):kF u O Y L e g d a j l i:=by
 have⟨b,n,c,o⟩:=h.out;exact(h.tp _).kept (k.but _) ⟨b,n,c,bk k o⟩
def aj.knone{w u:Nt}{v:Ny}{l:Nu NH}(h:aj 0 w.heap.size w v l)(a:(w.tp u.tape).gb u Ns):aj 0 u.heap.size u v l:=(aj.kept (w:=w.tp u.tape) h a (by simp)).mono (Nv _) a.size
section
variable[J:JunkSet]{f:Pl}{Post:Ny->Nt->Prop}{W:Nt}
def Nl(D:Two Ya NV)(r3:JunkSet.okf 137)(r7:∀i,¬ JunkSet.jk i)(r8:Ya.inits.idxOf? f=Ns)(s1:∃g,Ya.funcs[f]?=Nq g/\Tryz.prog.funcs[f]?=Nq g){ps:Nu Par}{l q o0:Nu NH}{yb F:NO OX}{yc C O Y Lp:NA}{q2:NH}(q8:q.length<=1000)(k7:∀c:Nu NH,(∀y∈c,y∈q)->c.length<=q.length->Iv ps l c)(hS:lF l q){wq:Nt}(hW:kF wq O Y Lp yb ps yc q2 F l C)(hO:Out wq O o0) :EC Ya NV f Post W 82 #[.slice F l.length C,.func (.func 83) #[] #[.pointer (Nq O),.pointer (Nq Y),.pointer (Nq Lp)]] wq λv u=>∃b o,dp (gy ps l) (eZ q 0) o0=(b,o)/\v=.bool b/\(wq.tp u.tape).gb u (Nq O)/\Out u O o:=by
 have j:Ya.funcs[(Oq 82).fn]?=Tryz.prog.funcs[(Oq 82).fn]?:=bG 82 (by decide);refine EC.of_body1 D (fn:=Xe) (c0:=Tryz.f82.body.getD .skip) (t:=4) Tp.x82 Tryz.func82 (by kernel_rfl) rfl λcs p b6=>?_;have HR:=Np b6;clear b6;have t2:O<wq.heap.size:=by have⟨b,n,c,h1⟩:=hW.out;exact(Nz.1 h1).1
 simp only[Xe,NK];walk_nrm;refine EL.sp D p j λT=>?_;go_wp2;obtain⟨h,N⟩:∃h,h=(wq.tp T).heap.size:=⟨_,rfl⟩;rw[<- N];have g1:(wq.tp T).gb (((wq.tp T).alloc (.cells #[.slice F l.length C] 29)).alloc (.cells #[.func (.func 83) #[] #[.pointer (Nq O),.pointer (Nq Y),.pointer (Nq Lp)]] 51)) Ns:=(Nr _ _ Ns).t (Nr _ _ Ns);have l1:(((wq.tp T).alloc (.cells #[.slice F l.length C] 29)).alloc (.cells #[.func (.func 83) #[] #[.pointer (Nq O),.pointer (Nq Y),.pointer (Nq Lp)]] 51)).heap[h]?=Nq (.cells #[.slice F l.length C] 29 (0,0)):=by rw[N];exact aE (NL (wq.tp T) _)
 have e1:(((wq.tp T).alloc (.cells #[.slice F l.length C] 29)).alloc (.cells #[.func (.func 83) #[] #[.pointer (Nq O),.pointer (Nq Y),.pointer (Nq Lp)]] 51)).heap[h+1]?=Nq (.cells #[.func (.func 83) #[] #[.pointer (Nq O),.pointer (Nq Y),.pointer (Nq Lp)]] 51 (0,0)):=by
  have:=NL ((wq.tp T).alloc (.cells #[.slice F l.length C] 29)) (.cells #[.func (.func 83) #[] #[.pointer (Nq O),.pointer (Nq Y),.pointer (Nq Lp)]] 51);rw[NW] at this;rw[N];exact this
 generalize ((wq.tp T).alloc (.cells #[.slice F l.length C] 29)).alloc (.cells #[.func (.func 83) #[] #[.pointer (Nq O),.pointer (Nq Y),.pointer (Nq Lp)]] 51)=u1 at g1 l1 e1 ⊢;have d8:=tpg g1;have k9:=hW.ints.knone d8;clear g1;have e9:=Np (show h=wq.heap.size from N);show EL _ _ _ _ _ _ _;clear N;refine EL.sp D p j λT=>?_;have c1:(u1.tp T).cell? h=Nq (.slice F l.length C):=aa l1 rfl;have⟨g5,m6,m5⟩:=bC l1 e1 d8;have g6:=Np (show aj 0 (u1.tp T).heap.size (u1.tp T) (.slice F l.length C) l from k9);have P:h<(u1.tp T).heap.size:=(Nz.1 l1).1;clear l1 e1 d8 k9;obtain⟨A,I⟩:∃A,A=u1.tp T:=⟨_,rfl⟩;rw[<- I] at g6 c1 P ⊢;have HU:=Np I;clear I;have k5:A.frozen? ⟨h,0,Ns⟩=NC:=by rw[HU];exact aA g5
 go_wp2_with (first
  | (go_at_call 135;refine(my _ _ _ _).mono ?_;rintro e w2 ⟨rfl,rfl⟩)
  | (go_at_call 134;refine(hS A.heap.size (.slice F l.length C) _ (by simp) (by rw[il];rfl) ((g6.alloc _).mono (Nv _) (by simp))).mono ?_;rintro e w2 ⟨v,rfl,d9,b7,H⟩;obtain⟨Z,V,rfl,-,-⟩:=d9.cell;have c2:=(((Nr A (.cells #[.slice F l.length C] 29) Ns).t H).cl c1);have z2:=(((Nr A (.cells #[.slice F l.length C] 29) Ns).t H).frozen_far _ P (by simp)).t k5;have m3:=Np d9;have a9:=Np ((Nr A (.cells #[.slice F l.length C] 29) Ns).t H);have t1:=Np b7;clear d9 b7 H))
 have r:=an w2 h 0 (.slice Z q.length V);have b9:w2.heap[h]?=Nq (.cells #[.slice F l.length C] 29 (0,0)):=bk a9 (by rw[HU];exact g5);have l2:(w2.setCell h (.slice Z q.length V)).heap[h]?=Nq (.cells #[.slice Z q.length V] 29 (0,0)):=by rw[ar b9];rfl
 have s6:=blk (X:=h+1) a9 (by simp) (by rw[HU];exact m6);have e2:=bk r s6;have i2:=(m3.kept r (λR e=>by cases e;left;rw[NW];omega)).mono (OE _) r.size;have e7:(wq.tp (w2.setCell h (.slice Z q.length V)).tape).gb (w2.setCell h (.slice Z q.length V)) Ns:=by
  have a:=a9.out;rw[HU] at a;exact GL m5 (tpg ((a.but (Nq h)).t r)) (by rw[e9];exact Nv _)
 show EL _ _ _ _ _ _ _;generalize w2.setCell h (.slice Z q.length V)=u2 at r l2 e2 i2 e7 ⊢;clear b9 m3 a9 t1 c2 z2 r k5 HU g6 c1 P m5 m6 g5;refine EL.sp D p j λT=>?_;go_wp2;obtain⟨s,a7⟩:∃s,s=(u2.tp T).heap.size:=⟨_,rfl⟩;rw[<- a7];have g3:(u2.tp T).gb ((u2.tp T).alloc (.cells #[.nilFunc] 151)) Ns:=Nr _ _ Ns;have p3:((u2.tp T).alloc (.cells #[.nilFunc] 151)).heap[s]?=Nq (.cells #[.nilFunc] 151 (0,0)):=by rw[a7];exact NL (u2.tp T) _
 have l3:=bk g3 (show(u2.tp T).heap[h]?=_ from l2);have e3:=bk g3 (show(u2.tp T).heap[h+1]?=_ from e2);have e6:=gb e7 (tpg g3);have i3:=i2.knone (tpg g3);have w8:h<s:=by rw[a7];exact(Nz.1 l2).1
 show EL _ _ _ _ _ _ _;generalize (u2.tp T).alloc (.cells #[.nilFunc] 151)=u3 at g3 p3 l3 e3 e6 i3 ⊢;clear g3 l2 e2 i2 a7 e7;refine EL.sp D p j λT=>?_;have c3:(u3.tp T).cell? s=Nq .nilFunc:=aa p3 rfl;have z3:(u3.tp T).frozen? ⟨s,0,Ns⟩=NC:=aA p3;have v4:∀(a:OX) (fn:Fn) (x y:NJ Ny) (m:Mode) (w:Nt),(store a (.func fn x y) m).run Ya w=stored Ya w a (.func fn x y) m:=λa fn x y m w=>run_store _ w a _ m rfl;go_wp2;have r:=an (u3.tp T) s 0 (.func (.func 136) #[] #[.pointer (Nq (h+1:NA)),.pointer (Nq h),.pointer (Nq s)]);have p4:((u3.tp T).setCell s (.func (.func 136) #[] #[.pointer (Nq (h+1:NA)),.pointer (Nq h),.pointer (Nq s)])).heap[s]?=Nq (.cells #[.func (.func 136) #[] #[.pointer (Nq (h+1:NA)),.pointer (Nq h),.pointer (Nq s)]] 151 (0,0)):=by
  rw[ar (show(u3.tp T).heap[s]?=_ from p3)];rfl
 have l4:=blk r (by simp;omega) (show(u3.tp T).heap[h]?=_ from l3);have e4:=blk r (λe=>ie (show(u3.tp T).heap[h+1]?=_ from e3) (show(u3.tp T).heap[s]?=_ from p3) (by decide) (by cases e;rfl)) (show(u3.tp T).heap[h+1]?=_ from e3);have i4:aj 0 ((u3.tp T).setCell s (.func (.func 136) #[] #[.pointer (Nq (h+1:NA)),.pointer (Nq h),.pointer (Nq s)])).heap.size ((u3.tp T).setCell s (.func (.func 136) #[] #[.pointer (Nq (h+1:NA)),.pointer (Nq h),.pointer (Nq s)])) (.slice Z q.length V) q:=by
  obtain⟨base,s7,e,hl,hr⟩:=i3;refine⟨base,s7,e,hl,λr5=>?_⟩;have⟨B,o,cs,fr,e1,e2,e3,e4,e5⟩:=hr r5;exact⟨B,o,cs,fr,e1,e2,NX e3 r.size,blk r (λe=>ie (show(u3.tp T).heap[B]?=_ from e4) (show(u3.tp T).heap[s]?=_ from p3) (by decide) (by cases e;rfl)) e4,e5⟩
 have U:=GL e6 (tpg r) (by have:=e9.out;omega);show EL _ _ _ _ _ _ _;generalize (u3.tp T).setCell s (.func (.func 136) #[] #[.pointer (Nq (h+1:NA)),.pointer (Nq h),.pointer (Nq s)])=u4 at r p4 l4 e4 i4 U ⊢;clear r c3 z3 p3 l3 e3 e6 i3;have hG:qf u4 (h+1) h s O Y Lp Z V q:=⟨e4,l4,i4,p4,by have:=e9.out;omega⟩;have s3:=hW.knone U;have k8:=hO.kept U;have m4:=Np U;clear e4 i4 p4 U;have d6:∀(d:NA) (k:NA) (z:NJ Ny) (u:Nt) (o:Nu NH),d=q.length+1 - k->k<=q.length+1->z.size=21->z[5]?=Nq (.pointer (Nq s))->z[13]?=Nq (.int .i64 (q.length+1:NA))->z[14]?=Nq (.int .i64 k) ->
   (u4.tp u.tape).gb u (Nq O)->Out u O o->dp (gy ps l) (eZ q 0) o0=dp (gy ps l) (eZ q k) o ->
   EL Ya NV f Post W (G ((Oq 82).at ⟨z,[]⟩ (.code (sub [1,1,1,1,0,1,0,0] (Tryz.f82.body.getD .skip))::.inLoop (sub [1,1,1,1,0,1,0,0] (Tryz.f82.body.getD .skip))::.inBlock 0::.code (sub [1,1,1,1,1] (Tryz.f82.body.getD .skip))::[])) cs) u:=by
  intro d;induction d with
  | zero=>
   intro k z u o hd hk hz h5 S Q hg a6 L;obtain⟨y0,y1,y2,y3,y4,y5,y6,y7,y8,y9,q0,p9,p8,p7,p6,p5,n9,n8,n7,n6,n4,rfl⟩:=Ki z hz;clear hz;simp at h5 S Q;subst h5 S Q;have e8:=Np L;have r4:¬ (k:NH)<(q.length:NH)+1:=by omega
   have r9:q.length+1<=k:=by omega
   clear hd L;simp only[Xe,NK,sub];refine EL.sp D p j λT=>?_;go_wp2;refine EL.tape (wq:=u) ?_ T;refine EL.seq D p j ?_;refine EL.cond D p j NC (by rfl) ?_;simp only[if_false,OJ];refine EL.exit D p j rfl ?_;refine EL.sp D p j λT=>?_;go_wp2;refine EL.tape (wq:=u) ?_ T;refine EL.retS D p j ?_;refine HR _ _ u ⟨NC,o,?_,rfl,gb (Lk _ m4) hg,a6⟩;rw[e8,xK r9];rfl
  | succ d d7=>
   intro k z u o hd hk hz h5 S Q hg a6 L;obtain⟨y0,y1,y2,y3,y4,y5,y6,y7,y8,y9,q0,p9,p8,p7,p6,p5,n9,n8,n7,n6,n4,rfl⟩:=Ki z hz;clear hz;simp at h5 S Q;subst h5 S Q;have e8:=Np L;have r4:(k:NH)<(q.length:NH)+1:=by omega
   have r6:k<q.length+1:=by omega
   have HD:=Np hd;clear hd L;have l5:=hG.gw hg k8;have s2:=s3.gr hg a6;simp only[Xe,NK,sub] at d7 ⊢;have s9:=Np d7;clear d7;refine EL.sp D p j λT=>?_;go_wp2;refine EL.tape (wq:=u) ?_ T;refine EL.seq D p j ?_;refine EL.cond D p j NB (by rfl) ?_;simp only[if_true];refine EL.skip D p j ?_;refine EL.seq D p j ?_;refine EL.block D p j ?_;refine EL.sp D p j λT=>?_;go_wp2;refine EL.tape (wq:=u) ?_ T;refine EL.seq D p j ?_;refine EL.region D p j ?_;simp only[Ox,NQ,NU,Oh,Oc,Oo,Pf];refine EL.list D p j [0,1] [_,_] (rest:=[2]) rfl λT=>?_;have c1:(u.tp T).cell? s=Nq (.func (.func 136) #[] #[.pointer (Nq (h+1:NA)),.pointer (Nq h),.pointer (Nq s)]):=aa l5.gr rfl;go_wp2;refine EL.tape (wq:=u) ?_ T;refine EL.enter D p j (fk:=136) (args:=#[.slice Ns ([]:Nu NH).length 0,.int .i64 (0:NA),k,.pointer (Nq (h+1:NA)),.pointer (Nq h),.pointer (Nq s)]) rfl rfl (λT=>by rw[jM (f:=136) rfl rfl Tp.x136 (by kernel_rfl) rfl];walk_nrm;rfl) (bG 136 (by decide)) ?_;refine My D r3 r7 r8 s1 q8 k7 k [] 0 Ns 0 u o (by simp;omega) (by simp) l5 s2 a6 (aj.nil _ _ _) (λad n c e=>by cases e) (Nv _) (.inr rfl) (by omega) _ cs p j λv u2 hR=>?_;obtain⟨b,o2,q9,rfl,H,b8⟩:=hR;rw[Qw];walk_nrm;have M:(u4.tp u2.tape).gb u2 (Nq O):=gb hg H;have b0:dp (gy ps l) (eZ q 0) o0=if b=NB then(b,o2) else dp (gy ps l) (eZ q (k+1)) o2:=by
    rw[e8,oC r6,tN,q9]
   refine EL.region_end D p j ?_;cases b with
   | true=>
    refine EL.cond D p j NB (by rfl) ?_;simp only[if_true];refine EL.sp D p j λT=>?_;go_wp2;refine EL.tape (wq:=u2) ?_ T;refine EL.retS D p j ?_;exact HR _ _ u2 ⟨NB,o2,b0,rfl,gb (Lk _ m4) M,b8⟩
   | false=>
    refine EL.cond D p j NC (by rfl) ?_;simp only[if_false,OJ];refine EL.skip D p j ?_;refine EL.inBlock D p j ?_;have v3:IntKind.i64.wrap ((k:NH)+1)=((k+1:NA):NH):=by simp[Ui];omega
    refine EL.piece D p j λT=>?_;go_wp2;refine EL.tape (wq:=u2) ?_ T;refine EL.inLoop D p j ?_;exact s9 (k+1) _ u2 o2 (by have:=HD.out;omega) (by omega) (by rfl) (by rfl) (by rfl) (by rfl) M b8 b0
 simp only[Xe,NK,sub] at d6;have s8:=Np d6;clear d6;have v2:IntKind.i64.wrap ((q.length:NH)+1)=((q.length+1:NA):NH):=by simp[Ui];omega
 refine EL.seq D p j ?_;refine EL.sp D p j λT=>?_;have c4:(u4.tp T).cell? h=Nq (.slice Z q.length V):=aa l4 rfl;go_wp2;refine EL.tape (wq:=u4) ?_ T;refine EL.block D p j ?_;refine EL.loop D p j ?_;exact s8 (q.length+1) 0 _ u4 o0 rfl (by omega) (by rfl) (by rfl) (by rfl) (by rfl) (nX _ _) k8 rfl
end
end
section
open Go Go.RowKit Go.Co Go.Sim Go.Conc Go.ConcN
def aD.knone{w u:Nt}{v:Ny}{l:Nu Par}(h:aD 0 w.heap.size w v l)(a:(w.tp u.tape).gb u Ns):aD 0 u.heap.size u v l:=(aD.kept (w:=w.tp u.tape) h a (by simp)).mono (Nv _) a.size
def bj.knone{w u:Nt}{v:Ny}(h:bj w v)(a:(w.tp u.tape).gb u Ns):bj u v:=λj n c e=>by
 have⟨i,g,f,d,b⟩:=h j n c e;exact⟨i,g,f,bk a d,b⟩
section
variable[J:JunkSet]{f:Pl}{Post:Ny->Nt->Prop}{W:Nt}
def EC.of_body2(D:Two Ya NV){e:Pl}{fn:Func}{c0:Qs}{b:NJ Ny}{j:Nt}{R:Ny->Nt->Prop}{t t':NA}(n:Ya.funcs[e]?=Nq fn)(l:Tryz.prog.funcs[e]?=Nq fn)(i:fn.body=Nq c0)(k:fn.results=#[.tmp t,.tmp t'])(h:∀g,Bot f g->(∀c a u,R (.tuple #[c.getD t NG,c.getD t' NG]) u->EL Ya NV f Post W (G { (Oq e).at ⟨c,[]⟩ a with mode:=.returning } g) u) ->EL Ya NV f Post W (G ((Oq e).at ⟨b++OY (fn.ntmps - b.size) NG,[]⟩ [.code c0]) g) j):EC Ya NV f Post W e b j R :=
 EC.of_body D n l i λg o d=>h g o λc a u p=>d ⟨c,[]⟩ a u _ rfl (λT=>results_tmp2 k _ _ _) p
def Nm(D:Two Ya NV)(a9:JunkSet.okf 137)(b6:∀i,¬ JunkSet.jk i)(b7:Ya.inits.idxOf? f=Ns)(c8:∃g,Ya.funcs[f]?=Nq g/\Tryz.prog.funcs[f]?=Nq g){d:Nu Par}{l ws:Nu NH}{j n:NO OX}{h k:NA}{a:NH}(a7:ws.length<=1000)(I:∀c:Nu NH,(∀y∈c,y∈ws)->c.length<=ws.length->Iv d l c)(hS:lF l ws)(hY:YOk d a)(hP:POk d a l){wq:Nt}(A:aD 0 wq.heap.size wq (.slice j d.length h) d)(yi:bj wq (.slice j d.length h))(B:aj 0 wq.heap.size wq (.slice n l.length k) l)(pi:bj wq (.slice n l.length k))(h0:br wq 0) :EC Ya NV f Post W 29 #[.agg #[.slice j d.length h,a],.slice n l.length k] wq λv u=>∃o s,v=.tuple #[s,.int .i64 0]/\(∃b,dp (gy d l) (eZ ws 0) []=(b,o))/\(wq.tp u.tape).gb u Ns/\aj 0 u.heap.size u s o:=by
 have p:Ya.funcs[(Oq 29).fn]?=Tryz.prog.funcs[(Oq 29).fn]?:=bG 29 (by decide);refine EC.of_body2 D (fn:=Tryz.f29) (c0:=Tryz.f29.body.getD .skip) (t:=4) (t':=5) Tp.x29 Tryz.func29 (by kernel_rfl) rfl λcs q C=>?_;have HR:=Np C;clear C;simp only[Tryz.f29,NK];walk_nrm;refine EL.sp D q p λT=>?_;go_wp2;obtain⟨X,L⟩:∃X,X=(wq.tp T).heap.size:=⟨_,rfl⟩;rw[<- L];have g1:(wq.tp T).gb (((wq.tp T).alloc (.cells #[.slice j d.length h,a] 24)).alloc (.cells #[.slice n l.length k] 29)) Ns:=(Nr _ _ Ns).t (Nr _ _ Ns);have Q:(((wq.tp T).alloc (.cells #[.slice j d.length h,a] 24)).alloc (.cells #[.slice n l.length k] 29)).heap[X]?=Nq (.cells #[.slice j d.length h,a] 24 (0,0)):=by rw[L];exact aE (NL (wq.tp T) _)
 have U:(((wq.tp T).alloc (.cells #[.slice j d.length h,a] 24)).alloc (.cells #[.slice n l.length k] 29)).heap[X+1]?=Nq (.cells #[.slice n l.length k] 29 (0,0)):=by
  have:=NL ((wq.tp T).alloc (.cells #[.slice j d.length h,a] 24)) (.cells #[.slice n l.length k] 29);rw[NW] at this;rw[L];exact this
 show EL _ _ _ _ _ _ _;generalize ((wq.tp T).alloc (.cells #[.slice j d.length h,a] 24)).alloc (.cells #[.slice n l.length k] 29)=u1 at g1 Q U ⊢;have x:=tpg g1;clear g1;have HX:=Np (show X=wq.heap.size from L);clear L;refine EL.sp D q p λT=>?_;have c1:(u1.tp T).cell? X=Nq (.slice j d.length h):=aa Q rfl;have c2:(u1.tp T).cell? ⟨X,1,Ns⟩=Nq (.int .i64 a):=aa Q rfl;have c3:(u1.tp T).cell? (X+1:NA)=Nq (.slice n l.length k):=aa U rfl;have M:=Np (show aD 0 (u1.tp T).heap.size (u1.tp T) (.slice j d.length h) d from(show aD 0 u1.heap.size u1 (.slice j d.length h) d from A.knone x));have N:=Np (show aj 0 (u1.tp T).heap.size (u1.tp T) (.slice n l.length k) l from(show aj 0 u1.heap.size u1 (.slice n l.length k) l from B.knone x));go_wp2_with (go_at_call 81;refine(jO 0 _ _ _ d a l _ M N (Nv _) hY hP).mono ?_;rintro e R ⟨rfl,H⟩;have P:=Np H;clear H);obtain⟨Y,F⟩:∃Y,Y=R.heap.size:=⟨_,rfl⟩;rw[<- F];have w:(u1.tp T).gb (R.alloc (.cells #[.slice j d.length h,a] 91)) Ns:=P.out.t (Nr _ _ Ns);have G:=gb x (tpg w);have V:(R.alloc (.cells #[.slice j d.length h,a] 91)).heap[Y]?=Nq (.cells #[.slice j d.length h,a] 91 (0,0)):=by rw[F];exact NL _ _
 have S:=bk w (show(u1.tp T).heap[X+1]?=_ from U);show EL _ _ _ _ _ _ _;generalize R.alloc (.cells #[.slice j d.length h,a] 91)=u2 at w G V S ⊢;clear w F P c1 c2 c3 M N Q U x;refine EL.seq D q p ?_;refine EL.sp D q p λT=>?_;go_wp2;refine EL.tape (wq:=u2) ?_ T;refine EL.cond D q p NC (by rfl) ?_;simp only[if_false,OJ];refine EL.skip D q p ?_;refine EL.sp D q p λT=>?_;go_wp2;obtain⟨O,z⟩:∃O,O=(u2.tp T).heap.size:=⟨_,rfl⟩;rw[<- z];have w:(u2.tp T).gb ((u2.tp T).alloc (.cells #[.slice Ns 0 0] 29)) Ns:=Nr _ _ Ns;have r:=gb G (tpg w);have o3:((u2.tp T).alloc (.cells #[.slice Ns 0 0] 29)).heap[O]?=Nq (.cells #[.slice Ns 0 0] 29 (0,0)):=by rw[z];exact NL _ _
 have y3:=bk w (show(u2.tp T).heap[Y]?=_ from V);have Z:=bk w (show(u2.tp T).heap[X+1]?=_ from S);have b0:O≠X+1:=by
  have h1:=(Nz.1 (show(u2.tp T).heap[X+1]?=_ from S)).1;omega
 show EL _ _ _ _ _ _ _;generalize (u2.tp T).alloc (.cells #[.slice Ns 0 0] 29)=u3 at w r y3 Z o3 ⊢;have e5:=Np z;clear w V S z;have d6:Out u3 O []:=⟨Ns,0,0,o3,aj.nil _ _ _⟩;have c9:kF u3 O Y (X+1) j d h a n l k:=⟨⟨_,_,_,o3⟩,y3,Z,b0,A.knone r,yi.knone r,B.knone r,pi.knone r,by
  obtain⟨cs,e,g,h0,b8⟩:=h0;exact⟨cs,e,g,bk r h0,b8⟩⟩
 refine EL.seq D q p ?_;refine EL.region D q p ?_;simp only[Ox,NQ,NU,Oh,Oc,Oo,Pf];refine EL.list D q p [0,1] [_,_] (rest:=[2]) rfl λT=>?_;have c1:(u3.tp T).cell? (X+1:NA)=Nq (.slice n l.length k):=aa Z rfl;go_wp2;refine EL.tape (wq:=u3) ?_ T;refine EL.enter D q p (fk:=82) (args:=#[.slice n l.length k,.func (.func 83) #[] #[.pointer (Nq O),.pointer (Nq Y),.pointer (Nq (X+1:NA))]]) rfl rfl (λT=>by rw[TI (f:=82) rfl Tp.x82 (by kernel_rfl) rfl];walk_nrm) (bG 82 (by decide)) ?_;refine Nl D a9 b6 b7 c8 a7 I hS c9 d6 _ cs q p λv u hR=>?_;obtain⟨b,o,a8,rfl,b9,d5⟩:=hR;rw[Qw];walk_nrm;refine EL.region_end D q p ?_;refine EL.sp D q p λT=>?_;obtain⟨ob,on,oc,o4,i4⟩:=d5;have c1:(u.tp T).cell? O=Nq (.slice ob on oc):=aa o4 rfl;go_wp2;refine EL.tape (wq:=u) ?_ T;refine EL.retS D q p ?_;exact HR _ _ u ⟨o,_,rfl,⟨b,a8⟩,GL r b9 (by have h1:=G.size;have h2:(wq.tp u2.tape).heap.size=wq.heap.size:=rfl;have h3:=e5.out;rw[h3];exact h1),i4⟩
end
end
section
open Go.RowKit
def DZ(pv:Ny)(U:Nu Par)(a9:NH)(w:Nt)(hP:aD 0 w.heap.size w pv U)(D:YOk U a9)(H0:∀x:Nu NH,x.Nodup->(∀y∈x,0<=y/\y<U.length)->POk U a9 x)(G3:∀p∈U,p.tall<=a9)(hN:((eZ (bn U.length) 0).flatMap fK).length<=1000)(SL:Nu (Nu NH))(K8:SL=jd U (eZ (bn U.length) 0))(L2:SL.length<=12)(U0:SL≠[])(K6:∀s∈cC SL.length SL,s≠[]/\∀x∈s,0<=x/\x<5)(f:NA)(q6:f<=100)(R:Nu (Nu NH))(hf:GX f (cC SL.length SL) (bL (bn U.length)) [([],0)]=Nq (Nq R)) :Oz Ya 63 #[.agg #[pv,a9]] w λe w'=>∃v,e=.returned (.tuple #[v,.int .i64 0])/\w.gb w' Ns/\RowsIn 0 w'.heap.size w' v R:=by
 have⟨i0,K3,G1,F9,F8⟩:=PM Tp.info133p;obtain⟨yb,yc,rfl,Z0,-⟩:=hP.cell;have⟨HP,s8,N4,M6,HN,x0,HF,w8⟩:=GI hP D H0 G3 hN K8 hf K6;clear hP D H0 G3 hN K8 hf K6;go_enter Tp.x63,Tryz.ntmps63;go_wp2;refine wp_scope_straight ?_;go_upto_region 4 with(go_at_call 81;refine(jO 0 w.heap.size _ _ U a9 [] _ (HP.kept (Nr _ _ Ns)) (aj.nil _ _ _) (by simp) s8 (POk.nil U s8.l1)).mono ?_;rintro e F ⟨rfl,M0⟩;have T:=Np ((Nr w (.cells #[.slice yb U.length yc,a9] 24) Ns).t M0);clear M0);obtain⟨Y,C1⟩:∃Y,Y=F.heap.size:=⟨_,rfl⟩;obtain⟨w3,u6⟩:∃w3,w3=F.alloc (.cells #[.slice yb U.length yc,a9] 91):=⟨_,rfl⟩;rw[<- C1,<- u6];have q9:w3.heap[Y]?=Nq (.cells #[.slice yb U.length yc,a9] 91 (0,0)):=by rw[u6,C1];exact NL _ _
 have v7:w.gb w3 Ns:=T.out.t (by rw[u6];exact Nr _ _ Ns);have⟨D0,t4⟩:=aQ q9 v7;have q0:=aa q9 (o:=0) rfl;have q1:=aa q9 (o:=1) rfl;have N7:=Np ((HP.kept v7).mono (Nv _) v7.size);clear C1 u6 q9 v7;go_wp2;go_loopw [29] (λiv wr=>∃k:NA,iv=.int .i64 k/\k<=U.length/\w3.gb wr Ns) (λiv _=>(U.length - OP iv).toNat)
 case atStart=>exact⟨0,rfl,by omega,NN _ _⟩
 case round=>
  obtain⟨k,rfl,hk,hG⟩:=hrel;have HG:=Np hG;have D5:=N7.out.kept hG;have R3:=hG.cl q0;have R2:=hG.cl q1;have T3:Y<wr.heap.size:=by have:=aJ D0;have:=hG.size;omega
  clear hG;by_cases v1:k<U.length
  ·obtain⟨b2,c2,he,-,hc⟩:=D5.cell;cases he;obtain⟨YB,yo,rfl,hY1,Z9,q9,k0⟩:=hc (by intro e;rw[e] at v1;simp at v1);have⟨p,hp,p0,p1,p2,p3⟩:=k0 k (by omega);have Z5:=M6.out p (Od hp);have K0:(k:NH)<(U.length:NH):=by omega
   clear hc k0 hp D5;go_wp2;go_roundw
   case rel=>exact⟨k+1,by simp,by omega,HG.t (Nr _ _ _)⟩
   case measure=>simp[OP];omega
  ·obtain rfl:k=U.length:=by omega
   clear D5;go_upto_region 11 with(fail);obtain⟨Sg,C3⟩:∃Sg,Sg=wr.heap.size:=⟨_,rfl⟩;obtain⟨w4,u5⟩:∃w4,w4=wr.alloc (.cells #[.slice Ns 0 0] 36):=⟨_,rfl⟩;rw[<- C3,<- u5];have M3:w4.heap[Sg]?=Nq (.cells #[.slice Ns 0 0] 36 (0,0)):=by rw[u5,C3];exact NL _ _
   have r8:w3.gb w4 Ns:=HG.out.t (by rw[u5];exact Nr _ _ Ns);have k0:=bk r8 D0;have Z3:w.heap.size<=Sg:=by have:=t4.out.size;have:=HG.out.size;omega
   have⟨D9,s3⟩:=aQ M3 k0;have e4:=Np (t4.t r8);have N6:=Np ((HP.kept (t4.t r8)).mono (Nv _) (t4.t r8).size);have c0:=aa k0 (o:=0) rfl;have c1:=aa k0 (o:=1) rfl;clear C3 u5 M3 r8 k0 D0 q0 q1 R3 R2 T3;have hn:U.length<=1000:=by have:=s8.out.len;omega
   go_upto_region 12 with(first
    | (go_at_call 100;refine(kY yb U.length yc a9 w4 hn).mono ?_;rintro e w5 ⟨v5,rfl,L9,C8⟩;obtain⟨b5,k5,e5,-,-⟩:=C8.cell;rw[bN] at e5;subst e5;have L:=Np L9;have P3:=Np C8;clear L9 C8)
    | (go_at_call 82;refine(JA (bk L s3) ((N6.kept L).mono (Nv _) L.size) (bk L D9) s8 N4 HN (P3.mono (OE _) (Nv _))).mono ?_;rintro e w6 ⟨rfl,G6,M1⟩;have e6:=Np M1;clear M1))
   have⟨SB,sc,d9,L0,l7⟩:=e6.out.rows (by rw[<- x0];exact U0) (by rw[<- x0];omega);rw[<- x0] at d9 l7;have Q:w.gb w6 Ns:=⟨e6.os.trans (e4.t L).os,e6.tape.trans (e4.t L).tape,e6.output.trans (e4.t L).output,NM (e4.t L).size e6.size,λk hk _=>(e6.keep k (NX hk (e4.t L).size) (by omega)).t ((e4.t L).block k hk (by simp))⟩;have C2:w6.heap[Y]?=_:=(e6.keep Y (aJ (bk L s3)) (λe=>by have h:=s3.out;rw[e,D9] at h;injection h with h;injection h with _ h _;exact absurd h (by decide))).t (bk L s3);have S3:=l7;obtain⟨csS,n6,-⟩:=S3;have K9:SB<w6.heap.size:=aJ n6;have⟨P6,M5,M9,N1⟩:=cJ Q C2 d9 l7;have R8:w.heap.size<=SB:=by have:=(e4.t L).size;omega
   have K7:SB≠Sg:=λe=>by rw[e,d9] at n6;injection n6 with h;injection h with _ h _;exact absurd h (by decide)
   have C4:SB≠Y:=λe=>by rw[e,C2] at n6;injection n6 with h;injection h with _ h _;exact absurd h (by decide)
   have P1:=Np (show w5.heap.size<=SB from L0);have c6:=aa d9 (o:=0) rfl;clear Q C2 d9 l7 L0 c0 c1 e6 n6;go_upto_region 13 with(go_at_call 121;refine(FD _ _ SB 0 sc SL w6 N1 (Nv _) L2).mono ?_;rintro e w7 ⟨rfl,L8,L4⟩;have c3:=Np L8;have N0:=Np L4;clear L8 L4);have v3:=blk c3 (by simpa using λe=>C4 e.symm) M5;have L1:=blk c3 (by simpa using λe=>K7 e.symm) M9;have⟨HY7,M8⟩:=aQ v3 L1;have b6:w.gb w7 Ns:=kA P6 c3 R8;have P5:=Np b6;have d0:=aa v3 (o:=0) rfl;have d1:=aa v3 (o:=1) rfl;clear v3 L1 c6 b6;have h5:∀x∈bn U.length,0<=x/\x<5:=λx hx=>by have:=yx hx;have:=s8.out.len;omega
   have H5:=Np h5;clear h5;go_upto_region 14 with(first
    | (go_at_call 100;refine(kY yb U.length yc a9 w7 hn).mono ?_;rintro e w9 ⟨v9,rfl,L6,C7⟩;obtain⟨b9,k9,e9,-,-⟩:=C7.cell;rw[bN] at e9;subst e9;have x2:=Np L6;have P2:=Np C7;clear L6 C7)
    | (go_at_call 123;refine(um _ _ _ _ w9 P2 H5).mono ?_;rintro e Y6 ⟨rfl,rfl⟩))
   obtain⟨S,hS⟩:∃S,S=cC SL.length SL:=⟨_,rfl⟩;have k6:S.length=SL.length:=by rw[hS,pK]
   rw[<- hS] at HF w8;obtain⟨al,K5⟩:∃al,al=bL (bn U.length):=⟨_,rfl⟩;rw[<- K5] at HF ⊢;have L3:RowsIn 0 w9.heap.size w9 (.slice (Nq SB) S.length sc) S:=by
    have h1:bQ w5.heap.size w6.heap.size SB 0 w7 S:=by rw[hS];exact N0
    have h2:=h1.rows K9 P1 (by omega) sc;exact(h2.kept x2).mono (OE _) (NM c3.size x2.size)
   rw[<- k6] at M8;have K4:w.gb w9 Ns:=P5.out.t x2;have B3:=bk x2 M8;have c9:=aa B3 (o:=0) rfl;have X6:=aJ B3;have⟨U9,V5,U8⟩:=bC L3 K4 k6;have r5:S.length<=12:=by omega
   clear hS K5 L3 K4 B3 k6 x0 M6 HN N4 HP N7 N6 D9 s3 M5 M9 N1 N0 P3 P2 T t4 e4 L P6 c3 P5 HG d0 d1 P1 H5;go_upto_region 15 with(fail);have M2:Bj S al R (.slice (Nq w9.heap.size) 1 1) (w9.alloc (.cells #[.slice Ns 0 0,.int .u8 0] 133)) f:=by
    refine⟨[([],0)],⟨_,1,rfl,λ_=>⟨w9.heap.size,0,_,_,rfl,by simp,NL _ _,λi hi=>?_⟩⟩,⟨by simp,λp hp=>?_⟩,λp hp=>?_,HF⟩
    ·obtain rfl:i=0:=by simp at hi;omega
     exact⟨([],0),_,_,rfl,rfl,rfl,⟨Ns,0,rfl,by simp,λh=>absurd rfl h⟩,rfl,λa n c e=>by cases e;omega⟩
    ·obtain rfl:p=([],0):=by simpa using hp
     simp
    ·obtain rfl:p=([],0):=by simpa using hp
     simpa using q6
   have V6:=Np M2;clear M2;refine wp_label ?_;go_wp2;go_loopw [10] (λnv wr=>(∃m,m<=100/\Bj S al R nv wr m)/\w9.gb wr Ns) (λnv wr=>BH S al R nv wr)
   case atStart=>exact⟨⟨f,q6,V6⟩,Nr _ _ Ns⟩
   case round=>
    obtain⟨wo,rfl⟩:∃x,x=wr:=⟨wr,rfl⟩;obtain⟨⟨m,hm,hP⟩,hg⟩:=hrel;have hQ:=Ar hm hP;have S6:=yg hm hP;obtain⟨m0,B8⟩:∃m0,m0=BH S al R u10 wo:=⟨_,rfl⟩;rw[<- B8] at hQ S6;obtain⟨u,m8,p7,G5,l6⟩:=hQ;have G8:=m8;obtain⟨nb,nc,rfl,-⟩:=G8;cases m0 with
    | zero=>cases l6
    | succ n=>
     simp only[GX] at l6;have⟨V4,HG,V0,s4,D2,z5⟩:=rS B8 hg m8 p7 G5 l6;have S2:=p7.1;have S5:n<100:=by omega
     clear hm hP hg B8 m8 p7 G5 l6;go_wp2;go_loopw [11,53] (λnx iv wq=>∃k:NA,iv=.int .i64 k/\k<=u.length/\(∀p∈u.take k,p.2≠al)/\wo.gb wq Ns/\dY wo.heap.size wq nx (dI S (u.take k))) (λ_ iv _=>(u.length - OP iv).toNat)
     case atStart=>exact⟨0,rfl,by omega,by simp,NN _ _,dY.nil _ _⟩
     case round=>
      obtain⟨k,rfl,hk,H7,C0,g7⟩:=hrel;have t3:=Np C0;have X:=C0;have⟨D7,x1⟩:=aQ H7 g7;clear C0 H7 g7;by_cases v1:k<u.length
      ·obtain⟨RB,ro,p,pa,pn,pc,rfl,H2,H1,r1,r2,r3,r4⟩:=V0.out.at v1;have S9:=X.cl r1;have S8:=X.cl r2;have K0:(k:NH)<(u.length:NH):=by omega
       obtain⟨b,d⟩:=p;dsimp only at r1 r2 r3 r4 H1;subst H1;have M4:=(HG.t X).cl c9;have X5:Sg<wr.heap.size:=by have:=(HG.t X).size;omega
       go_upto_region 19 with(fail);obtain⟨Z,v6⟩:∃Z,Z=wr.heap.size:=⟨_,rfl⟩;obtain⟨w1,u7⟩:∃w1,w1=wr.alloc (.cells #[.slice pa b.length pc,.int .u8 (d:NA)] 133):=⟨_,rfl⟩;rw[<- v6,<- u7];have d7:wr.gb w1 Ns:=by rw[u7];exact Nr _ _ Ns
       have l4:w1.heap[Z]?=Nq (.cells #[.slice pa b.length pc,.int .u8 (d:NA)] 133 (0,0)):=by rw[u7,v6];exact NL _ _
       have b0:=aa l4 (o:=0) rfl;have b1:=aa l4 (o:=1) rfl;have U7:=d7.cl M4;have N3:=Np r3;have V1:=Np ((r3.kept (X.t d7)).mono (Nv _) (X.t d7).size);have⟨N5,l9,s6,n7⟩:=cJ l4 d7 v6 H2;clear l4 u7 d7 v6 r1 r2 r3 S9 S8 H2 M4 X;by_cases B5:d=al
       ·subst B5;go_wp2;rw[Exit.noGoto_ret];go_ret2;have N:=z5.out;rw[qA (λp:Rec=>p.2 == d) u k _ n7 (by simp) (λi y hi hy=>by
         have:=D7.out y (Od (by rw[PI hi];exact hy));simpa using this)] at N
        simp only[OM] at N;exact⟨_,rfl,V5.t (HG.t (t3.t l9)),by rw[<- N];exact V1⟩
       ·have W6:((d:NH) == (al:NH))=NC:=by rw[beq_eq_false_iff_ne];omega
        have V2:=Np B5;clear B5;obtain⟨wp,R7⟩:∃x,x=wr:=⟨wr,rfl⟩;have z1:wo.gb w1 Ns:=t3.out.t l9;have W4:wo.heap.size<=Z:=by have:=t3.out.size;have:=s6.out;omega
        have H9:∀g,u11.ownBlock=Nq g->g≠Z:=λg e=>by
         obtain⟨C,h1,-,-⟩:=x1.out;have:=(h1.lt g e).2;have:=s6.out;omega
        have P0:=Np (x1.kept l9);have⟨P4,V3⟩:=aQ z1 H9;clear R7 z1 H9 x1 l9 t3 s6;go_wp2;clear b0 b1 U7;go_loopw [11,65] (λnx iv wq=>∃j:NA,iv=.int .i64 j/\j<=S.length/\wo.gb wq Ns/\wq.heap[Z]?=Nq (.cells #[.slice pa b.length pc,.int .u8 (d:NA)] 133 (0,0))/\(∀g,nx.ownBlock=Nq g->g≠Z)/\dY wo.heap.size wq nx (dI S (u.take k)++((S.take j).filter (okF (b,d))).map (lW (b,d)))) (λ_ iv _=>(S.length - OP iv).toNat)
        case atStart=>exact⟨0,rfl,by omega,P4,N5,V3,by simpa using P0.out⟩
        case round=>
         obtain⟨j,rfl,hj,g8,d5,z0,x9⟩:=hrel;have Z8:=aa (o:=0) d5 rfl;have X3:=aa (o:=1) d5 rfl;have⟨b8,a7,a8,l8⟩:=cJ g8 d5 z0 x9;have W3:=g8.size;have X8:=aJ d5;clear d5 z0 x9;by_cases B9:j<S.length
         ·obtain⟨Y8,Y7,eS,-,v4⟩:=(U9.kept (HG.t g8)).cell;cases eS;obtain⟨SB',so,eS,-,-,-,v4⟩:=v4 (by intro e;rw[e] at B9;simp at B9);cases eS;have⟨s,x,A9,R9,u9⟩:=v4 j B9;rw[Oc] at R9;obtain⟨xb,xc,rfl,-,x6⟩:=u9.cell;have⟨x5,G4⟩:=w8.out s (Od A9);obtain⟨XB,xo,rfl,-,-,-,e8⟩:=x6 x5;have A8:0<s.length:=Ru.2 x5;have e8:=e8 0 A8;have X0:(j:NH)<(S.length:NH):=by omega
          have Q2:(0:NH)<(s.length:NH):=by omega
          have p6:=λC (h:World.gb _ C Ns)=>um _ _ _ s C (u9.kept h) G4;have B7:=jR s 5 λy hy=>by have:=G4 y hy;omega
          have l5:okF (b,d) s=(!(decide (0<b.length) && decide (pM s<=pM (Cd b))) && decide (d &&& bL s=0)):=rfl;have p8:=(s4.2 _ (Od n7)).2.1;have P:=Er ⟨d,p8⟩ ⟨bL s,B7⟩;have n4:=Hz ⟨d,p8⟩ ⟨bL s,B7⟩;have q7:lW (b,d) s=(b++[s],d ||| bL s):=rfl;simp only at P n4 p8;rw[show s[0]?.getD 0=pM s from rfl] at e8;generalize bL s=ms at p6 B7 l5 P n4 q7;generalize pM s=hs at e8 l5;have z2:(S.take (j+1)).filter (okF (b,d))=(S.take j).filter (okF (b,d))++(if okF (b,d) s=NB then[s] else[]):=by
           rw[OR,A9,SP];simp[List.filter_cons]
          have⟨t6,a6,A,m3,N9,z6,M7⟩:=AH z2 p6 l5 P n4 q7 u9;have s5:=Np ((N3.kept g8).mono (Nv _) g8.size);clear z2 p6 l5 P n4 q7 u9 v4 A9 g8 x6;have q8:okF (b,d) s=NC->∀C,wr.gb C Ns->dY wo.heap.size C u11 (dI S (u.take k)++((S.take (j+1)).filter (okF (b,d))).map (lW (b,d))):=λe C h=>by
           rw[t6,e];simpa using l8.out.kept h
          have k8:=Np q8;clear q8;have x4:w9.heap.size<=wr.heap.size:=(HG.t b8).size;have x8:=D2.out _ (Od n7);dsimp only at x8;have W5:b.length<=100:=by omega
          clear x8;by_cases v0:0<b.length
          ·have S4:(0:NH)<(b.length:NH):=by omega
           rw[show decide (0<b.length)=NB by simpa using v0] at A;simp only[TK] at A;obtain⟨lb,lc,el,-,v2⟩:=s5.out.cell;cases el;obtain⟨LB,lo,rfl,-,-,-,v2⟩:=v2 (by intro e;rw[e] at v0;simp at v0);have⟨r,x,m8,Z4,G7⟩:=v2 (b.length - 1) (by omega);have p9:Cd b=r:=by unfold Cd;rw[m8];rfl
           have G9:=(s4.2 _ (Od n7)).1 r (Od m8);obtain⟨x7,-⟩:=w8.out r G9;obtain⟨rb,rc,rfl,-,g5⟩:=G7.cell;obtain⟨QB,qo,rfl,-,-,-,g5⟩:=g5 x7;have B4:0<r.length:=Ru.2 x7;have g5:=g5 0 B4;rw[Nat.add_zero] at g5;have e8:=e8;rw[Nat.add_zero] at e8;rw[p9] at A;rw[show r[0]?.getD 0=pM r from rfl] at g5;have Q3:(0:NH)<(r.length:NH):=by omega
           have Z2:IntKind.i64.wrap ((b.length:NH) - 1)=(b.length:NH) - 1:=Ov _ (by omega);have H6:((b.length:NH) - 1).toNat=b.length - 1:=by omega
           have W8:(0:NH)<=(b.length:NH) - 1:=by omega
           have W7:(b.length:NH) - 1<(b.length:NH):=by omega
           generalize pM r=hr at g5 A;clear v2 p9 G9 G7;by_cases K1:hs<=hr
           ·have D:okF (b,d) s=NC:=by rw[A];simp[K1]
            have I:=Np D;clear D;go_upto_region 25 with(fail);go_quiet (first | (go_at_call 123;refine Qc ((a6 _ (ax _ _ Ns)).mono (λe w5 h=>⟨h.1,h.2.symm⟩))));go_wp2;exact⟨⟨j+1,by simp,by omega,b8.t (ax _ _ Ns),a7,a8,k8 I _ (ax _ _ Ns)⟩,by simp[OP];omega⟩
           ·rw[show decide (hs<=hr)=NC by simpa using K1] at A;simp only[TT,TK] at A;by_cases hz:d &&& ms=0
            ·have A6:(((d &&& ms:NA):NH) != 0)=NC:=by rw[hz];rfl
             have D:okF (b,d) s=NB:=by rw[A];simpa using hz
             have I:=Np D;have P:=m3.out;clear hz D;go_upto_region 25 with(fail);go_quiet (first | (go_at_call 123;refine Qc ((a6 _ (ax _ _ Ns)).mono (λe w5 h=>⟨h.1,h.2.symm⟩))));go_upto_region 26 with(fail);have h8:=ax wr nq Ns;have A7:wr.heap.size=(wr.drewN nq).heap.size:=rfl;generalize wr.drewN nq=wa at h8 A7 ⊢;have g9:wr.gb wa.drew Ns:=h8.t (ai wa Ns);have g6:=bk g9 a7;have s0:wa.drew.cell? Z=Nq (.slice (Nq ⟨LB,lo,Ns⟩) b.length pc)/\wa.drew.cell? ⟨Z,1,Ns⟩=Nq (.int .u8 (d:NA)):=⟨aa g6 rfl,aa g6 rfl⟩;have p4:=s0.1;have n9:=s0.2;have⟨C,n1,n2,n3⟩:=l8.out;have⟨oa,om,oc,eo⟩:=cd n1;subst eo;have⟨D8,O,t2,t1⟩:=cJ g9 n1 n2 n3;have n4:=N9.out;have H3:(b.length:NH)<=(pc:NH):=by omega
             have H8:(0:NH)<=(b.length:NH):=by omega
             have C5:(dI S (u.take k)++((S.take j).filter (okF (b,d))).map (lW (b,d))).length<=20000:=by
              have h1:=uA S (u.take k);have h2:=PS (okF (b,d)) (S.take j);have h3:(u.take k).length*S.length<=1000*12:=UT (by rw[Qt];omega) r5;rw[Pi,Ql];rw[Qt] at h2;omega
             generalize r6:(dI S (u.take k)++((S.take j).filter (okF (b,d))).map (lW (b,d)))=RR at O t2 t1 C5;have D1:=Np r6;have S7:wo.heap.size<=wa.heap.size:=by have:=b8.out.size;omega
             clear h8 g9 g6 n1 n2 n3 r6;refine aI 21 (λw'=>w'.cell? Z=Nq (.slice (Nq ⟨LB,lo,Ns⟩) b.length pc)/\w'.cell? ⟨Z,1,Ns⟩=Nq (.int .u8 (d:NA))) (by kernel_rfl) (by kernel_rfl) s0 (λhHeld=>?_);simp only[NQ,NU,Oh,OV,Oc,Oj,Ol,Ow,On,Oa];refine tk 0 (h:=tk 1 (h:=tk 2 (h:=tk 3 (h:=tk 4 (h:=tk 5 (h:=tk 6 (h:=tk 7 (h:=tk 8 (h:=tk 9 (h:=tk 10 (h:=tk 13 (h:=tk 14 (h:=tk 15 (h:=?_))))))))))))));try go_frame
             refine rdc 11 λK hK=>?_;go_simp;refine hK.out _ _ (by first | exact hHeld | exact s7 | exact s2 | exact⟨(Nr _ _ Ns).cl hHeld.1,(Nr _ _ Ns).cl hHeld.2⟩) (λhHeld=>?_);refine rdc 12 λK hK=>?_;have M:wr.gb (wa.drew.alloc (.cells #[.slice (Nq ⟨XB,xo,Ns⟩) s.length xc] 29)) Ns:=D8.out.t (Nr _ _ Ns);refine qP rfl (.tmp 105) (.tmp 107) rfl (nc:=pc) (B:=wa.heap.size) (y:=.slice (Nq ⟨XB,xo,Ns⟩) s.length xc) (l:=s) (by rfl) (by rfl) ((s5.kept M).mono (Nv _) M.size) (il wa.drew _ _ _) ((M7.kept M).mono (OE _) (NM x4 M.size)) (by omega) (λg G F q2 q3 q5=>?_);have h9:=M.t q2;have s2:F.cell? Z=Nq (.slice (Nq ⟨LB,lo,Ns⟩) b.length pc)/\F.cell? ⟨Z,1,Ns⟩=Nq (.int .u8 (d:NA)):=⟨q2.cl ((Nr wa.drew _ Ns).cell p4 (by simp)),q2.cl ((Nr wa.drew _ Ns).cell n9 (by simp))⟩;have⟨T,D4,D3⟩:=bC h9 q3 q5;have S1:wa.heap.size<=F.heap.size:=by have:=h9.size;omega
             clear M q2 q3 q5 h9;refine hK.out _ _ (by first | exact hHeld | exact s7 | exact s2 | exact⟨(Nr _ _ Ns).cl hHeld.1,(Nr _ _ Ns).cl hHeld.2⟩) (λhHeld=>?_);refine rdc 16 λK hK=>?_;go_simp;go_at_call 123;refine(a6 F T).mono ?_;rintro e w3 ⟨rfl,rfl⟩;refine hK.out _ _ (by first | exact hHeld | exact s7 | exact s2 | exact⟨(Nr _ _ Ns).cl hHeld.1,(Nr _ _ Ns).cl hHeld.2⟩) (λhHeld=>?_);refine tk 17 (h:=tk 18 (h:=?_));try go_frame
             refine rdc 19 λK hK=>?_;go_simp;refine hK.out _ _ (by first | exact hHeld | exact s7 | exact s2 | exact⟨(Nr _ _ Ns).cl hHeld.1,(Nr _ _ Ns).cl hHeld.2⟩) (λhHeld=>?_);refine rdc 20 λK hK=>?_;have r7:=ee (C:=F) O (λg e=>T.block g (O.lt g e).2 (by simp));refine step_append_lies _ (by rfl) _ _ _ (by rfl) wo.heap.size 133 i0 _ 2 32 Tp.und134 K3 G1 F9 F8 rfl (by omega) (.slice oa om oc) RR.length (oI C) (by rfl) (by exact r7.alloc _) ⟨F.heap.size,0,Ns⟩ 1 1 [.slice (Nq ⟨g,0,Ns⟩) (b.length+1) G,.int .u8 ((d ||| ms:NA):NH)] (by rfl) (by rfl) (Pt (cs:=#[.slice (Nq ⟨g,0,Ns⟩) (b.length+1) G,.int .u8 ((d ||| ms:NA):NH)]) (t:=133) (fr:=(0,0)) (NL F _)) (by simp[PT]) (by omega) (by unfold Rh;omega) (by omega) (by simp;omega) (F.heap.size+1) (by simp) ?_;intro g' cp w7 V z d8 q4;have h6:(F.alloc (.cells #[.slice (Nq ⟨g,0,Ns⟩) (b.length+1) G,.int .u8 ((d ||| ms:NA):NH)] 133)).gb w7 (OS oa om oc).ownBlock:=⟨z.os,z.tape,z.output,z.size,z.block⟩;have Q:=T.out.t (Nr F (.cells #[.slice (Nq ⟨g,0,Ns⟩) (b.length+1) G,.int .u8 ((d ||| ms:NA):NH)] 133) Ns);have b6:wr.gb w7 (OS oa om oc).ownBlock:=(Q.but _).t h6;have H:=blk b6 (λe=>a8 _ e.symm rfl) a7;have s7:w7.cell? Z=Nq (.slice (Nq ⟨LB,lo,Ns⟩) b.length pc)/\w7.cell? ⟨Z,1,Ns⟩=Nq (.int .u8 (d:NA)):=⟨aa H rfl,aa H rfl⟩;have k7:=ee (C:=F.alloc (.cells #[.slice (Nq ⟨g,0,Ns⟩) (b.length+1) G,.int .u8 ((d ||| ms:NA):NH)] 133)) O (λg e=>Q.block g (O.lt g e).2 (by simp));have c8:jA (F.alloc (.cells #[.slice (Nq ⟨g,0,Ns⟩) (b.length+1) G,.int .u8 ((d ||| ms:NA):NH)] 133)) (.slice (Nq ⟨g,0,Ns⟩) (b.length+1) G) (.int .u8 ((d ||| ms:NA):NH)) (b++[s],d ||| ms):=⟨(D4.kept (Nr F _ Ns)).mono (Nv _) (Nr F _ Ns).size,rfl,λa n c e=>by cases e;exact D3⟩;have d6:=dY.push k7 t2 (λi p x e1 e2=>(t1 i p x e1 e2).kept Q) h6 V (c8.app k7 h6);have⟨s9,c3,D6,E0⟩:=cJ d6 b6 H d8;clear V z d8 q4 h6 Q b6 H r7 k7 c8 d6;refine hK.out _ _ (by first | exact hHeld | exact s7 | exact s2 | exact⟨(Nr _ _ Ns).cl hHeld.1,(Nr _ _ Ns).cl hHeld.2⟩) (λhHeld=>?_);try go_frame
             refine⟨by kernel_rfl,?_⟩;simp only[Oi,OH];clear s0 p4 n9 s2 s7 hHeld;go_wp2;refine⟨⟨j+1,by simp,by omega,b8.andThen c3 (λi e=>.inl (O.lt i e).1),D6,λi e=>?_,?_⟩,by simp[OP];omega⟩
             ·obtain rfl:g'=i:=by simpa[OG] using e
              rcases E0 with h | h
              ·exact a8 _ h
              ·have:=T.out.size;omega
             ·rw[t6,if_pos I.out,Qm,<- Qv,D1,show List.map (lW (b,d)) [s]=[lW (b,d) s] from rfl,z6];exact s9
            ·have A6:(((d &&& ms:NA):NH) != 0)=NB:=by simpa using hz
             have D:okF (b,d) s=NC:=by rw[A];simpa using hz
             have I:=Np D;have P:=m3.out;clear hz D;go_upto_region 25 with(fail);go_quiet (first | (go_at_call 123;refine Qc ((a6 _ (ax _ _ Ns)).mono (λe w5 h=>⟨h.1,h.2.symm⟩))));go_wp2;exact⟨⟨j+1,by simp,by omega,b8.t (ax _ _ Ns),a7,a8,k8 I _ (ax _ _ Ns)⟩,by simp[OP];omega⟩
          ·have S4:¬ (0:NH)<(b.length:NH):=by omega
           rw[show decide (0<b.length)=NC by simpa using v0] at A;simp only[Bool.false_and,TT,TK] at A;by_cases hz:d &&& ms=0
           ·have A6:(((d &&& ms:NA):NH) != 0)=NC:=by rw[hz];rfl
            have D:okF (b,d) s=NB:=by rw[A];simpa using hz
            have I:=Np D;have P:=m3.out;clear hz D;go_upto_region 25 with(fail);go_quiet (first | (go_at_call 123;refine Qc ((a6 _ (ax _ _ Ns)).mono (λe w5 h=>⟨h.1,h.2.symm⟩))));go_upto_region 26 with(fail);have h8:=ax wr nq Ns;have A7:wr.heap.size=(wr.drewN nq).heap.size:=rfl;generalize wr.drewN nq=wa at h8 A7 ⊢;have g9:wr.gb wa.drew Ns:=h8.t (ai wa Ns);have g6:=bk g9 a7;have s0:wa.drew.cell? Z=Nq (.slice pa b.length pc)/\wa.drew.cell? ⟨Z,1,Ns⟩=Nq (.int .u8 (d:NA)):=⟨aa g6 rfl,aa g6 rfl⟩;have p4:=s0.1;have n9:=s0.2;have⟨C,n1,n2,n3⟩:=l8.out;have⟨oa,om,oc,eo⟩:=cd n1;subst eo;have⟨D8,O,t2,t1⟩:=cJ g9 n1 n2 n3;have n4:=N9.out;have H3:(b.length:NH)<=(pc:NH):=by omega
            have H8:(0:NH)<=(b.length:NH):=by omega
            have C5:(dI S (u.take k)++((S.take j).filter (okF (b,d))).map (lW (b,d))).length<=20000:=by
             have h1:=uA S (u.take k);have h2:=PS (okF (b,d)) (S.take j);have h3:(u.take k).length*S.length<=1000*12:=UT (by rw[Qt];omega) r5;rw[Pi,Ql];rw[Qt] at h2;omega
            generalize r6:(dI S (u.take k)++((S.take j).filter (okF (b,d))).map (lW (b,d)))=RR at O t2 t1 C5;have D1:=Np r6;have S7:wo.heap.size<=wa.heap.size:=by have:=b8.out.size;omega
            clear h8 g9 g6 n1 n2 n3 r6;refine aI 21 (λw'=>w'.cell? Z=Nq (.slice pa b.length pc)/\w'.cell? ⟨Z,1,Ns⟩=Nq (.int .u8 (d:NA))) (by kernel_rfl) (by kernel_rfl) s0 (λhHeld=>?_);simp only[NQ,NU,Oh,OV,Oc,Oj,Ol,Ow,On,Oa];refine tk 0 (h:=tk 1 (h:=tk 2 (h:=tk 3 (h:=tk 4 (h:=tk 5 (h:=tk 6 (h:=tk 7 (h:=tk 8 (h:=tk 9 (h:=tk 10 (h:=tk 13 (h:=tk 14 (h:=tk 15 (h:=?_))))))))))))));try go_frame
            refine rdc 11 λK hK=>?_;go_simp;refine hK.out _ _ (by first | exact hHeld | exact s7 | exact s2 | exact⟨(Nr _ _ Ns).cl hHeld.1,(Nr _ _ Ns).cl hHeld.2⟩) (λhHeld=>?_);refine rdc 12 λK hK=>?_;have M:wr.gb (wa.drew.alloc (.cells #[.slice (Nq ⟨XB,xo,Ns⟩) s.length xc] 29)) Ns:=D8.out.t (Nr _ _ Ns);refine qP rfl (.tmp 105) (.tmp 107) rfl (nc:=pc) (B:=wa.heap.size) (y:=.slice (Nq ⟨XB,xo,Ns⟩) s.length xc) (l:=s) (by rfl) (by rfl) ((s5.kept M).mono (Nv _) M.size) (il wa.drew _ _ _) ((M7.kept M).mono (OE _) (NM x4 M.size)) (by omega) (λg G F q2 q3 q5=>?_);have h9:=M.t q2;have s2:F.cell? Z=Nq (.slice pa b.length pc)/\F.cell? ⟨Z,1,Ns⟩=Nq (.int .u8 (d:NA)):=⟨q2.cl ((Nr wa.drew _ Ns).cell p4 (by simp)),q2.cl ((Nr wa.drew _ Ns).cell n9 (by simp))⟩;have⟨T,D4,D3⟩:=bC h9 q3 q5;have S1:wa.heap.size<=F.heap.size:=by have:=h9.size;omega
            clear M q2 q3 q5 h9;refine hK.out _ _ (by first | exact hHeld | exact s7 | exact s2 | exact⟨(Nr _ _ Ns).cl hHeld.1,(Nr _ _ Ns).cl hHeld.2⟩) (λhHeld=>?_);refine rdc 16 λK hK=>?_;go_simp;go_at_call 123;refine(a6 F T).mono ?_;rintro e w3 ⟨rfl,rfl⟩;refine hK.out _ _ (by first | exact hHeld | exact s7 | exact s2 | exact⟨(Nr _ _ Ns).cl hHeld.1,(Nr _ _ Ns).cl hHeld.2⟩) (λhHeld=>?_);refine tk 17 (h:=tk 18 (h:=?_));try go_frame
            refine rdc 19 λK hK=>?_;go_simp;refine hK.out _ _ (by first | exact hHeld | exact s7 | exact s2 | exact⟨(Nr _ _ Ns).cl hHeld.1,(Nr _ _ Ns).cl hHeld.2⟩) (λhHeld=>?_);refine rdc 20 λK hK=>?_;have r7:=ee (C:=F) O (λg e=>T.block g (O.lt g e).2 (by simp));refine step_append_lies _ (by rfl) _ _ _ (by rfl) wo.heap.size 133 i0 _ 2 32 Tp.und134 K3 G1 F9 F8 rfl (by omega) (.slice oa om oc) RR.length (oI C) (by rfl) (by exact r7.alloc _) ⟨F.heap.size,0,Ns⟩ 1 1 [.slice (Nq ⟨g,0,Ns⟩) (b.length+1) G,.int .u8 ((d ||| ms:NA):NH)] (by rfl) (by rfl) (Pt (cs:=#[.slice (Nq ⟨g,0,Ns⟩) (b.length+1) G,.int .u8 ((d ||| ms:NA):NH)]) (t:=133) (fr:=(0,0)) (NL F _)) (by simp[PT]) (by omega) (by unfold Rh;omega) (by omega) (by simp;omega) (F.heap.size+1) (by simp) ?_;intro g' cp w7 V z d8 q4;have h6:(F.alloc (.cells #[.slice (Nq ⟨g,0,Ns⟩) (b.length+1) G,.int .u8 ((d ||| ms:NA):NH)] 133)).gb w7 (OS oa om oc).ownBlock:=⟨z.os,z.tape,z.output,z.size,z.block⟩;have Q:=T.out.t (Nr F (.cells #[.slice (Nq ⟨g,0,Ns⟩) (b.length+1) G,.int .u8 ((d ||| ms:NA):NH)] 133) Ns);have b6:wr.gb w7 (OS oa om oc).ownBlock:=(Q.but _).t h6;have H:=blk b6 (λe=>a8 _ e.symm rfl) a7;have s7:w7.cell? Z=Nq (.slice pa b.length pc)/\w7.cell? ⟨Z,1,Ns⟩=Nq (.int .u8 (d:NA)):=⟨aa H rfl,aa H rfl⟩;have k7:=ee (C:=F.alloc (.cells #[.slice (Nq ⟨g,0,Ns⟩) (b.length+1) G,.int .u8 ((d ||| ms:NA):NH)] 133)) O (λg e=>Q.block g (O.lt g e).2 (by simp));have c8:jA (F.alloc (.cells #[.slice (Nq ⟨g,0,Ns⟩) (b.length+1) G,.int .u8 ((d ||| ms:NA):NH)] 133)) (.slice (Nq ⟨g,0,Ns⟩) (b.length+1) G) (.int .u8 ((d ||| ms:NA):NH)) (b++[s],d ||| ms):=⟨(D4.kept (Nr F _ Ns)).mono (Nv _) (Nr F _ Ns).size,rfl,λa n c e=>by cases e;exact D3⟩;have d6:=dY.push k7 t2 (λi p x e1 e2=>(t1 i p x e1 e2).kept Q) h6 V (c8.app k7 h6);have⟨s9,c3,D6,E0⟩:=cJ d6 b6 H d8;clear V z d8 q4 h6 Q b6 H r7 k7 c8 d6;refine hK.out _ _ (by first | exact hHeld | exact s7 | exact s2 | exact⟨(Nr _ _ Ns).cl hHeld.1,(Nr _ _ Ns).cl hHeld.2⟩) (λhHeld=>?_);try go_frame
            refine⟨by kernel_rfl,?_⟩;simp only[Oi,OH];clear s0 p4 n9 s2 s7 hHeld;go_wp2;refine⟨⟨j+1,by simp,by omega,b8.andThen c3 (λi e=>.inl (O.lt i e).1),D6,λi e=>?_,?_⟩,by simp[OP];omega⟩
            ·obtain rfl:g'=i:=by simpa[OG] using e
             rcases E0 with h | h
             ·exact a8 _ h
             ·have:=T.out.size;omega
            ·rw[t6,if_pos I.out,Qm,<- Qv,D1,show List.map (lW (b,d)) [s]=[lW (b,d) s] from rfl,z6];exact s9
           ·have A6:(((d &&& ms:NA):NH) != 0)=NB:=by simpa using hz
            have D:okF (b,d) s=NC:=by rw[A];simpa using hz
            have I:=Np D;have P:=m3.out;clear hz D;go_upto_region 25 with(fail);go_quiet (first | (go_at_call 123;refine Qc ((a6 _ (ax _ _ Ns)).mono (λe w5 h=>⟨h.1,h.2.symm⟩))));go_wp2;exact⟨⟨j+1,by simp,by omega,b8.t (ax _ _ Ns),a7,a8,k8 I _ (ax _ _ Ns)⟩,by simp[OP];omega⟩
         ·obtain rfl:j=S.length:=by omega
          have Z6:¬ (S.length:NH)<(S.length:NH):=by omega
          clear g8;go_wp2;refine⟨⟨k+1,by simp,by omega,λq hq=>?_,b8,?_⟩,by simp[OP];omega⟩
          ·rw[OR,n7] at hq;rcases Qb.1 hq with h | h
           ·exact D7 q h
           ·simp at h;subst h;exact V2
          ·rw[Ax n7];have:=l8.out;rw[Ps] at this;exact this
      ·obtain rfl:k=u.length:=by omega
       have H6:(u.find? λp=>p.2 == al)=Ns:=Sa.2 λp hp=>by have:=D7.out p (by rw[Ps];exact hp);simpa using this
       have N:=z5.out;rw[H6] at N;have K2:(dI S u).length<=1000:=by
        refine OK λh=>?_;simp only[if_neg h] at N;cases N
       simp only[if_pos K2] at N;have B6:dI S u≠[]:=λh=>by
        rw[if_pos h] at N;cases N
       rw[if_neg B6] at N;have g7:=x1.out;rw[Ps] at g7;have L5:∀W v,lG W v (dI S u)->Bj S al R v W n:=λW v hr=>by
        refine⟨_,hr,⟨K2,λq hq=>?_⟩,λq hq=>?_,N⟩
        ·obtain⟨p,hp,s,hs,rfl⟩:=uG hq;have h1:=(s4.2 p hp);have h2:=D2.out p hp;have h3:=jR s 5 λy hy=>by have:=(w8 s hs).2 y hy;omega
         refine⟨λr hr=>?_,Nat.or_lt_two_pow (n:=5) h1.2.1 h3,by simp[lW];omega⟩;rcases Qb.1 hr with h | h
         ·exact h1.1 r h
         ·rw[Pk.1 h];exact hs
        ·obtain⟨p,hp,s,hs,rfl⟩:=uG hq;have h2:=D2.out p hp;simp[lW];omega
       have H4:=L5 wr u11 g7.recs;obtain⟨xb,xc,hx,-⟩:=g7.recs;have R6:(dI S u).length≠0:=λh=>B6 (OZ h);generalize (dI S u).length=xl at hx R6;subst hx;have N8:=Np H4;have Z1:((xl:NH) == 0)=NC:=by rw[beq_eq_false_iff_ne];omega
       clear H4 L5 N g7 B6;go_wp2;exact⟨⟨⟨n,by omega,N8⟩,HG.t t3⟩,Nat.lt_of_le_of_lt (yg (by omega) N8) (by rw[<- V4];omega)⟩
end
section
open Go Go.RowKit Go.Co
def fG{n:NH}(h:0<=n/\n<=30):YOk (bJ n) 6:=⟨by simp[bJ],λp a=>by
 simp only[bJ,ON,PY,or_false] at a;rcases a with rfl | rfl | rfl | rfl<;>(dsimp only;omega),by omega,by omega⟩
def iP(n:NH):(bJ n).length=4:=rfl
def xF(n:NH):∀(x:Nu NH),(∀y∈x,0<=y/\y<4)->∀a:NH,(x.map (dq (bJ n))).foldl (·+·) a=a+(2*(x.count 0:NH)+2*(x.count 1:NH)+(x.count 2:NH)+(x.count 3:NH))
 | [],_,a=>by simp
 | y::t,h,a=>by
  have b:=xF n t (λz c=>h z (by simp[c]));have d:=h y (by simp);simp only[Qj,PN];rw[b];obtain rfl | rfl | rfl | rfl:y=0\/y=1\/y=2\/y=3:=by omega
  all_goals simp[WU,dq,bJ];try omega
def og{x:Nu NH}(h:x.Nodup)(a:NH):x.count a<=1:=by
 induction x with
 | nil=>simp
 | cons y t b=>
  rw[List.nodup_cons] at h;rw[WU];by_cases e:y=a
  ·subst e;have:=List.count_eq_zero.2 h.1;simp[this]
  ·simp[e];exact b h.2
def qE{n:NH}(x:Nu NH)(a:x.Nodup)(d:∀y∈x,0<=y/\y<(bJ n).length):POk (bJ n) 6 x:=by
 have e:∀y∈x,0<=y/\y<4:=λy c=>by have:=d y c;rw[iP] at this;omega
 have i:=xF n x e 0;have o:=og a 0;have l:=og a 1;have k:=og a 2;have j:=og a 3;refine⟨d,a,?_,?_⟩
 ·unfold aN;rw[i];omega
 ·have b:∀(x:Nu NH),(∀y∈x,0<=y/\y<4)->x.length=x.count 0+x.count 1+x.count 2+x.count 3:=by
   intro x;induction x with
   | nil=>simp
   | cons y t f=>
    intro h;have:=f (λz g=>h z (by simp[g]));have c:=h y (by simp);obtain rfl | rfl | rfl | rfl:y=0\/y=1\/y=2\/y=3:=by omega
    all_goals simp[WU];omega
  have:=b x e;omega
def qn(n:NH):POk (bJ n) 6 [0,1,2]:=qE _ (by decide) (by simp[iP])
def Je(n:NH):POk (bJ n) 6 [2,1,0]:=qE _ (by decide) (by simp[iP])
def Hi:ft (bJ 12) [0,1,2]=[(6,9),(2,3),(0,0)]:=by kernel_rfl
def Ed:di (bJ 8) [0,1,2]=3:=by kernel_rfl
def Hh:mI (bJ 8) [0,1,2]=.tuple #[.agg #[.int .i64 (-1),.int .i64 2],.int .i64 0]:=by kernel_rfl
def JE:nN (bJ 12) 6 3 10 [bp [2,1,0]] [bp [2,1,0]] 0=Nq (Nq (3,[0,1,2])):=by kernel_rfl
def JD:(eL (bJ 12) 6 (eZ (bn (bJ 12).length) 0)).2=[0,1,2]:=by kernel_rfl
def Eg:jd (bJ 8) (eZ (bn (bJ 8).length) 0)=[[0],[1],[2],[3],[0,1],[0,2],[0,3],[1,2],[1,3]]:=by kernel_rfl
def exS:Nu (Nu NH):=[[0],[1],[2],[3],[0,1],[0,2],[0,3],[1,2],[1,3]]
def Lr:GX 10 (cC exS.length exS) (bL (bn (bJ 8).length)) [([],0)]=Nq (Nq [[0,2],[1,3]]):=by kernel_rfl
def Ee:∀s∈cC exS.length exS,s≠[]/\∀x∈s,0<=x/\x<5:=by decide
def sj(a:Nu Par)(l b:Nu NH):OI:=(Oo (Bc a b)).any λi=>aC a (ovr (tH a b i) (pre Par.mn a a.length) b b.length) l && !aC a (ovr (tH a b i) (pre Par.mx a a.length) b b.length) l
def zp(d:Nu Par)(l c:Nu NH):sj d l c=NB↔oU d l c:=by
 unfold sj oU;rw[List.any_eq_true];constructor
 ·rintro⟨i,b,a⟩;exact⟨i,Py.1 b,a⟩
 ·rintro⟨i,b,a⟩;exact⟨i,Py.2 b,a⟩
def Fc(a:Nu Par)(l c:Nu NH):gy a l c=!sj a l c:=xJ (zp a l c)
def Hg:dp (gy (bJ 8) [0,1,2]) (eZ [0,1,2] 0) []=(NB,[1,2]):=by
 have e:gy (bJ 8) [0,1,2]=λc=>!sj (bJ 8) [0,1,2] c:=funext λc=>Fc _ _ _;have h:dp (λc=>!sj (bJ 8) [0,1,2] c) (eZ [0,1,2] 0) []=(NB,[1,2]):=by kernel_rfl
 exact(congrArg (λp=>dp p (eZ [0,1,2] 0) []) e).t h
end
section
open Go.RowKit
def eY(n:NH)(w:Nt):Oz Ya 80 #[.int .i64 n] w λe x=>∃v,e=.returned (.agg #[v,.int .i64 6])/\w.gb x Ns/\aD w.heap.size x.heap.size x v (bJ n)/\∀(G:OX) (m c:NA),v=.slice (Nq G) m c->∃d e f,x.heap[G.block]?=Nq (.cells d e f)/\∀(i:NA) u,d[i]?=Nq u->∃k m,u=.int k m:=by
 obtain⟨A,y⟩:∃A,A=w.heap.size:=⟨_,rfl⟩;obtain⟨s,l⟩:∃s,s=w.alloc (.cells #[.slice Ns 0 0,.int .i64 0] 24):=⟨_,rfl⟩;have M:s.heap[A]?=Nq (.cells #[.slice Ns 0 0,.int .i64 0] 24 (0,0)):=by rw[l,y];exact NL w _
 have N:w.gb s Ns:=by rw[l];exact Nr _ _ Ns
 have⟨P,H,b,O⟩:=cJ y l M N;clear y l M N;go_enter Tp.x80,Tryz.ntmps80;go_upto_region 1 with(fail);rw[<- P,<- H];have g:=Np (NN s Ns);have R:=aa (o:=0) b rfl;have Q:=aa (o:=1) b rfl;have U:=aA (o:=0) b;have f1:=aA (o:=1) b;have F:=(Nz.1 b).1;go_wp2_with (go_at_call 39;refine(As _ _ _ _ _).mono ?_;rintro e a ⟨rfl,L⟩;replace g:=Np (g.t L);replace R:=aa (o:=0) (bk g b) rfl;replace Q:=aa (o:=1) (bk g b) rfl;replace U:=aA (o:=0) (bk g b);replace f1:=aA (o:=1) (bk g b);replace F:=(Nz.1 (bk g b)).1;clear L);obtain⟨d,q⟩:∃d:NJ Ny,d=#[.int .i64 8,.int .i64 10,.int .i64 n,.int .i64 2,.int .i64 4,.int .i64 6,.int .i64 6,.int .i64 2,.int .i64 2,.int .i64 3,.int .i64 3,.int .i64 1,.int .i64 5,.int .i64 5,.int .i64 0,.int .i64 1]:=⟨_,rfl⟩;obtain⟨W,p⟩:∃W,W=((a.setCell ⟨A,0,Ns⟩ (.slice (Nq ⟨a.heap.size,0,Ns⟩) 4 4)).setCell ⟨A,1,Ns⟩ (.int .i64 6)).alloc (.cells d 28):=⟨_,rfl⟩;have S:((a.setCell ⟨A,0,Ns⟩ (.slice (Nq ⟨a.heap.size,0,Ns⟩) 4 4)).setCell ⟨A,1,Ns⟩ (.int .i64 6)).heap.size=a.heap.size:=by simp[Qq]
 have C:W.heap[A]?=Nq (.cells #[.slice (Nq ⟨a.heap.size,0,Ns⟩) 4 4,.int .i64 6] 24 (0,0)):=by rw[p];exact aE (by rw[ar (ar (bk g b))];rfl)
 have r:W.heap[a.heap.size]?=Nq (.cells d 28 (0,0)):=by
  have:=NL ((a.setCell ⟨A,0,Ns⟩ (.slice (Nq ⟨a.heap.size,0,Ns⟩) 4 4)).setCell ⟨A,1,Ns⟩ (.int .i64 6)) (.cells d 28);rw[S,<- p] at this;exact this
 have y:=P.out;have D:w.gb W Ns:=((O.t g).andThen (row':=Nq A) ((an _ _ _ _).t (an _ _ _ _)) (by rintro j e;cases e;exact .inl (by omega))).t (by rw[p];exact Nr _ _ _);have z:=(O.t g).size;have B:a.heap.size<W.heap.size:=(Nz.1 r).1;rw[<- q,<- p];refine Qi (v:=.agg #[.slice (Nq ⟨a.heap.size,0,Ns⟩) 4 4,.int .i64 6]) (by simp[Qo,Tryz.results80,go_sem,OA,C]) rfl ⟨_,rfl,D,⟨Nq ⟨a.heap.size,0,Ns⟩,4,rfl,by simp[bJ],λ_=>⟨a.heap.size,0,d,_,rfl,z,B,r,λi T=>?_⟩⟩,λG m c e=>?_⟩;rotate_left
 ·cases e;refine⟨d,_,_,r,λi u I=>?_⟩;rw[q] at I;have hm:=PR I;simp only[Ro,ON,PY,or_false] at hm;rcases hm with h | h | h | h | h | h | h | h | h | h | h | h | h | h | h | h<;>exact⟨_,_,h⟩
 obtain rfl | rfl | rfl | rfl:i=0\/i=1\/i=2\/i=3:=by simp[bJ] at T;omega
 all_goals
  rw[q];exact⟨_,rfl,rfl,rfl,rfl,rfl⟩
end
section
open Go Go.RowKit Go.Co Go.Sim Go.Conc Go.ConcN
def nO{w:Nt}{B:NA}{a:NJ Ny}{b:NA × NA}(l:Nu NH)(h:w.heap[B]?=Nq (.cells a 3 b))(e:a=(l.map (Og .i64)).toArray)(c:(l.length:NH)<=1000000):aj 0 w.heap.size w (.slice (Nq B) l.length l.length) l :=
 ⟨_,_,rfl,c,λ_=>⟨B,0,a,b,rfl,OE _,aJ h,h,λi d=>by rw[e];simp[d]⟩⟩
def dX(w:Nt){a:NJ Ny}(l:Nu NH)(c:a=(l.map (Og .i64)).toArray)(b:(l.length:NH)<=1000000):aj 0 (w.alloc (.cells a 3)).heap.size (w.alloc (.cells a 3)) (.slice (Nq w.heap.size) l.length l.length) l:=nO l (NL w _) c b
def aj.kn{w u:Nt}{T:NA->Qe->NA}{v:Ny}{l:Nu NH}(h:aj 0 w.heap.size w v l)(a:(w.tp T).gb u Ns):aj 0 u.heap.size u v l:=(aj.kept (w:=w.tp T) h a (by simp)).mono (Nv _) a.size
def aV.kn{w u:Nt}{T:NA->Qe->NA}{v:Ny}{l:Nu (NH × NH)}(h:aV 0 w.heap.size w v l)(a:(w.tp T).gb u Ns):aV 0 u.heap.size u v l:=(aV.kept (w:=w.tp T) h a (by simp)).mono (Nv _) a.size
def RowsIn.kn{w u:Nt}{T:NA->Qe->NA}{v:Ny}{l:Nu (Nu NH)}(h:RowsIn 0 w.heap.size w v l)(a:(w.tp T).gb u Ns):RowsIn 0 u.heap.size u v l:=(RowsIn.kept (w:=w.tp T) h a (by simp)).mono (Nv _) a.size
def Ct{ps:Nu Par}{m:NA}(hm:1<=m)(b:∀p∈ps,kOf p<=m):∀(a:Nu NH) (L:Nu (NA->NH)),(a.foldl (iF ps) L).length<=L.length*m ^ a.length
 | [],L=>by simp
 | x::a,L=>by
  have c:=Ct hm b a (iF ps L x);have e:(iF ps L x).length<=L.length*m:=by
   unfold iF;split
   ·rename_i p d
    rw[iX];exact Vy _ (b p (Od d))
   ·exact Nat.le_mul_of_pos_right _ hm
  rw[PN,NQ,Nat.pow_succ];refine NM c (NM (Nat.mul_le_mul_right _ e) ?_);rw[Nat.mul_assoc,Nat.mul_comm m];exact Nv _
def JI{ps:Nu Par}{b:NH}(h:YOk ps b){l a:Nu NH}(g:∀y∈l,0<=y/\y<ps.length)(e:l.length<=1000)(c:∀y∈a,0<=y/\y<ps.length)(k:a.length<=5):Iv ps l a:=by
 refine⟨h.len,λp d=>?_,g,e,c,by omega,λj n=>?_⟩
 ·have:=h.each p d;omega
 ·have i:=Ct (ps:=ps) (m:=12) (by omega) (λp d=>by have:=h.each p d;unfold kOf;omega) (a.take j) [λ_=>0];have o:12 ^ (a.take j).length<=12 ^ 5:=Nat.pow_le_pow_right (by omega) (by rw[Qt];omega);unfold fT;simp only[NQ,NU,Oc,Nat.one_mul] at i;omega
def DF{w:Nt}{B:NA}{a:NJ Ny}{c:NA × NA}(h:w.heap[B]?=Nq (.cells a 26 c))(d:a=#[.int .i64 6,.int .i64 9,.int .i64 2,.int .i64 3,.int .i64 0,.int .i64 0]):aV 0 w.heap.size w (.slice (Nq B) 3 3) [(6,9),(2,3),(0,0)]:=by
 refine⟨_,_,rfl,by decide,λ_=>⟨B,0,a,c,rfl,OE _,aJ h,h,λi b=>?_⟩⟩;subst d;have b:i<3:=b;obtain rfl | rfl | rfl:i=0\/i=1\/i=2:=by omega
 all_goals exact⟨_,rfl,rfl,rfl⟩
def Gr{w:Nt}{B A1 A2:NA}{fr:NA × NA}(h:w.heap[B]?=Nq (.cells #[.slice (Nq A1) 2 2,.slice (Nq A2) 2 2] 29 fr))(c:aj 0 w.heap.size w (.slice (Nq A1) 2 2) [0,2])(b:aj 0 w.heap.size w (.slice (Nq A2) 2 2) [1,3]):RowsIn 0 w.heap.size w (.slice (Nq B) 2 2) [[0,2],[1,3]]:=by
 refine⟨_,_,rfl,by decide,λ_=>⟨B,0,_,fr,rfl,OE _,aJ h,h,λi a=>?_⟩⟩;have a:i<2:=a;obtain rfl | rfl:i=0\/i=1:=by omega
 ·exact⟨_,_,rfl,rfl,c⟩
 ·exact⟨_,_,rfl,rfl,b⟩
def Bh(w:Nt):RowsIn 0 (((w.alloc (.cells #[.int .i64 0,.int .i64 2] 3)).alloc (.cells #[.int .i64 1,.int .i64 3] 3)).alloc (.cells #[.slice (Nq w.heap.size) 2 2,.slice (Nq (w.heap.size+1:NA)) 2 2] 29)).heap.size (((w.alloc (.cells #[.int .i64 0,.int .i64 2] 3)).alloc (.cells #[.int .i64 1,.int .i64 3] 3)).alloc (.cells #[.slice (Nq w.heap.size) 2 2,.slice (Nq (w.heap.size+1:NA)) 2 2] 29)) (.slice (Nq (w.heap.size+2:NA)) 2 2) [[0,2],[1,3]]:=by
 refine Gr (A1:=w.heap.size) (A2:=w.heap.size+1) (fr:=(0,0)) ?_ ?_ ?_
 ·have h:=NL ((w.alloc (.cells #[.int .i64 0,.int .i64 2] 3)).alloc (.cells #[.int .i64 1,.int .i64 3] 3)) (.cells #[.slice (Nq w.heap.size) 2 2,.slice (Nq (w.heap.size+1:NA)) 2 2] 29);rw[NW,NW] at h;exact h
 ·exact nO [0,2] (aE (aE (NL w _))) rfl (by decide)
 ·have h:=NL (w.alloc (.cells #[.int .i64 0,.int .i64 2] 3)) (.cells #[.int .i64 1,.int .i64 3] 3);rw[NW] at h;exact nO [1,3] (aE h) rfl (by decide)
def fy[JunkSet]{f:Pl}{Post:Ny->Nt->Prop}{W:Nt}{g:NF}{w:Nt}(F:Nt->Prop)(a:F w)(h:∀u,F u->EL Ya NV f Post W g u):EL Ya NV f Post W g w:=h w a
section
variable[J:JunkSet]{f:Pl}{Post:Ny->Nt->Prop}{W:Nt}
def Mx(D:Two Ya NV)(h8:JunkSet.okf 137)(h9:∀i,¬ JunkSet.jk i)(k0:Ya.inits.idxOf? f=Ns)(k6:∃g,Ya.funcs[f]?=Nq g/\Tryz.prog.funcs[f]?=Nq g){wq:Nt}(h0:br wq 0) :EC Ya NV f Post W 23 #[] wq λv u=>v=.bool NB/\(wq.tp u.tape).gb u Ns:=by
 have z:Ya.funcs[(Oq 23).fn]?=Tryz.prog.funcs[(Oq 23).fn]?:=bG 23 (by decide);refine EC.of_body1 D (fn:=Tryz.f23) (c0:=Tryz.f23.body.getD .skip) (t:=0) Tp.x23 Tryz.func23 (by kernel_rfl) rfl λcs A N=>?_;have HR:=Np N;clear N;simp only[Tryz.f23,NK];walk_nrm;refine EL.sp D A z λT=>?_;go_wp2;refine EL.tape (wq:=wq) ?_ T;refine EL.sp D A z λT=>?_;go_wp2_with (first
  | (go_at_call 80;refine(eY 12 _).mono ?_;rintro e L ⟨V,rfl,d,a,b⟩;have r:=Np d;have p:=Np a;have C:=Np b;obtain⟨I,H,rfl,-,-⟩:=a.cell;clear d a b)
  | (go_at_call 35;refine(Dz 0 _ _ _ (bJ 12) 6 [0,1,2] _ ((p.kept (Nr _ _ Ns)).mono (OE _) (by rw[NW];omega)) (dX _ [0,1,2] rfl (by decide)) (Nv _) (fG (by omega)) (qn 12)).mono ?_;rintro e P ⟨Q,rfl,k,U⟩;rw[Hi] at U;have x:=Np k;have B3:=Np U;clear k U))
 have j:=r.out.t ((Nr _ _ Ns).t x);refine fy (λu=>(wq.tp u.tape).gb u Ns/\aV 0 u.heap.size u Q [(6,9),(2,3),(0,0)]) ⟨tpg j,B3.mono (OE _) (Nv _)⟩ λu1 G=>?_;obtain⟨g1,bA⟩:=G;clear j B3 x r p C;refine EL.sp D A z λT=>?_;go_wp2_with (first
  | (go_at_call 80;refine(eY 8 _).mono ?_;rintro e L ⟨V,rfl,d,a,b⟩;have r:=Np d;have p:=Np a;have C:=Np b;obtain⟨I,H,rfl,-,-⟩:=a.cell;clear d a b)
  | (go_at_call 37;refine(CP 0 _ _ _ (bJ 8) 6 [0,1,2] _ ((p.kept (Nr _ _ Ns)).mono (OE _) (by rw[NW];omega)) (dX _ [0,1,2] rfl (by decide)) (Nv _) (fG (by omega)) (qn 8)).mono ?_;rintro e P ⟨rfl,k⟩;rw[Ed];have x:=Np k;clear k))
 have j:=r.out.t ((Nr _ _ Ns).t x);refine fy (λu=>(wq.tp u.tape).gb u Ns/\aV 0 u.heap.size u Q [(6,9),(2,3),(0,0)]) ⟨gb g1 (tpg j),bA.kn j⟩ λu2 G=>?_;obtain⟨g2,d9⟩:=G;clear j x r p C g1 bA;refine EL.sp D A z λT=>?_;go_wp2_with (first
  | (go_at_call 80;refine(eY 8 _).mono ?_;rintro e L ⟨V,rfl,d,a,b⟩;have r:=Np d;have p:=Np a;have C:=Np b;obtain⟨I,H,rfl,-,-⟩:=a.cell;clear d a b)
  | (go_at_call 36;refine(CZ 0 _ _ _ (bJ 8) 6 [0,1,2] _ ((p.kept (Nr _ _ Ns)).mono (OE _) (by rw[NW];omega)) (dX _ [0,1,2] rfl (by decide)) (Nv _) (fG (by omega)) (qn 8)).mono ?_;rintro e P ⟨rfl,k⟩;rw[Hh];have x:=Np k;clear k))
 obtain⟨X,hX⟩:∃X,X=P.heap.size:=⟨_,rfl⟩;rw[<- hX];have j:=(r.t ((Nr _ _ Ns).t x)).t (Nr P (.cells #[.int .i64 (-1),.int .i64 2] 26) Ns);refine fy (λu=>(wq.tp u.tape).gb u Ns/\aV 0 u.heap.size u Q [(6,9),(2,3),(0,0)]/\u.heap[X]?=Nq (.cells #[.int .i64 (-1),.int .i64 2] 26 (0,0))) ⟨gb g2 (tpg j),d9.kn j,by rw[hX];exact NL _ _⟩ λu3 G=>?_;obtain⟨g3,d8,x3⟩:=G;clear j x r p C g2 d9 hX;refine EL.seq D A z ?_;refine EL.region D A z ?_;simp only[Ox,NQ,NU,Oh,Oc,Oo,Pf];refine EL.list D A z [0,1] [_,_] (rest:=[2,3,4,5,6,7]) rfl λT=>?_;go_wp2_with (go_at_call 80;refine(eY 8 _).mono ?_;rintro e L ⟨V,rfl,d,a,b⟩;have r:=Np d;have p:=Np a;have C:=Np b;obtain⟨I,H,rfl,-,-⟩:=a.cell;clear d a b);obtain⟨B,hB⟩:∃B,B=L.heap.size:=⟨_,rfl⟩;rw[<- hB];have j:=r.out.t (Nr L (.cells #[.int .i64 0,.int .i64 1,.int .i64 2] 3) Ns);have S:(L.alloc (.cells #[.int .i64 0,.int .i64 1,.int .i64 2] 3)).heap[B]?=Nq (.cells #[.int .i64 0,.int .i64 1,.int .i64 2] 3 (0,0)):=by rw[hB];exact NL _ _
 refine fy (λu=>((wq.tp u.tape).gb u Ns/\aV 0 u.heap.size u Q [(6,9),(2,3),(0,0)]/\u.heap[X]?=Nq (.cells #[.int .i64 (-1),.int .i64 2] 26 (0,0)))/\aD 0 u.heap.size u (.slice I (bJ 8).length H) (bJ 8)/\bj u (.slice I (bJ 8).length H)/\aj 0 u.heap.size u (.slice (Nq B) ([0,1,2]:Nu NH).length 3) [0,1,2]/\bj u (.slice (Nq B) ([0,1,2]:Nu NH).length 3))
  ⟨⟨gb g3 (tpg j),d8.kn j,bk j x3⟩,(p.kept (Nr _ _ Ns)).mono (OE _) (by rw[NW];omega),λad n c e=>by
   have⟨cs,e1,f1,h1,h2⟩:=C.out ad n c e;exact⟨cs,e1,f1,aE h1,h2⟩,nO [0,1,2] S rfl (by decide),λad n c e=>by
   cases e;refine⟨_,_,_,S,λi u hu=>?_⟩;have hm:=PR hu;simp only[Ro,ON,PY,or_false] at hm;rcases hm with h | h | h<;>exact⟨_,_,h⟩⟩ λu4 G=>?_
 obtain⟨⟨g4,d7,x4⟩,p4,Z,i4,a6⟩:=G;clear j S hB r p C g3 d8 x3;refine EL.enter D A z (fk:=29) (args:=#[.agg #[.slice I (bJ 8).length H,.int .i64 6],.slice (Nq B) 3 3]) rfl rfl (λT=>by rw[TI (f:=29) rfl Tp.x29 (by kernel_rfl) rfl];walk_nrm) (bG 29 (by decide)) ?_;refine Nm D h8 h9 k0 k6 (ws:=[0,1,2]) (l:=[0,1,2]) (by decide) (λc hc hl=>JI (fG (by omega)) (by simp[iP]) (by decide) (λy hy=>by have:=hc y hy;simp at this;rw[iP];omega) (by simp at hl;omega)) (kS (by decide) (by decide)) (fG (by omega)) (qn 8) p4 Z i4 a6 ?_ _ cs A z λv u hR=>?_
 ·obtain⟨cs,e,g,h0,k5⟩:=h0;exact⟨cs,e,g,blk (w:=wq.tp u4.tape) g4 (by simp) h0,k5⟩
 obtain⟨o,s,rfl,⟨bo,R⟩,M,a8⟩:=hR;rw[Hg] at R;obtain⟨rfl,rfl⟩:=Prod.mk.inj R;have g5:=gb g4 M;have d6:=d7.kn M;have x5:=blk (w:=u4.tp u.tape) M (by simp) x4;clear g4 d7 x4 p4 Z i4 a6 R M;rw[Qw];walk_nrm;refine EL.list D A z [3,4,5,6,7] [_,_,_,_,_] (rest:=[]) rfl λT=>?_;go_wp2;refine EL.tape (wq:=u) ?_ T;refine EL.region_end D A z ?_;refine EL.sp D A z λT=>?_;go_wp2_with (first
  | (go_at_call 80;refine(eY 12 _).mono ?_;rintro e L ⟨V,rfl,d,a,b⟩;have r:=Np d;have p:=Np a;have C:=Np b;obtain⟨I,H,rfl,-,-⟩:=a.cell;clear d a b)
  | (go_at_call 54;refine(BO _ _ (bJ 12) 6 [2,1,0] _ ((p.kept (Nr _ _ Ns)).mono (OE _) (by rw[NW];omega)) (dX _ [2,1,0] rfl (by decide)) (fG (by omega)) (Je 12) 10 (by decide) (Nq (3,[0,1,2])) JE).mono ?_;rintro e P ⟨k,v7,rfl,a7⟩;have x:=Np k;have I7:=Np a7;clear k a7))
 have j:=r.out.t ((Nr _ _ Ns).t x);refine fy (λq=>(wq.tp q.tape).gb q Ns/\aV 0 q.heap.size q Q [(6,9),(2,3),(0,0)]/\q.heap[X]?=Nq (.cells #[.int .i64 (-1),.int .i64 2] 26 (0,0))/\aj 0 q.heap.size q s [1,2]/\aj 0 q.heap.size q v7 [0,1,2]) ⟨gb g5 (tpg j),d6.kn j,bk j x5,a8.kn j,I7⟩ λu6 G=>?_;obtain⟨g6,d5,x6,s6,m6⟩:=G;clear j x r p C I7 g5 d6 x5 a8;refine EL.sp D A z λT=>?_;go_wp2_with (first
  | (go_at_call 80;refine(eY 8 _).mono ?_;rintro e L ⟨V,rfl,d,a,b⟩;have r:=Np d;have p:=Np a;have C:=Np b;obtain⟨I,H,rfl,-,-⟩:=a.cell;clear d a b)
  | (go_at_call 63;refine(DZ _ (bJ 8) 6 _ (p.mono (OE _) (Nv _)) (fG (by omega)) qE (by decide) (by decide) exS Eg.symm (by decide) (by decide) Ee 10 (by decide) [[0,2],[1,3]] Lr).mono ?_;rintro e P ⟨v9,rfl,k,F⟩;have x:=Np k;have O:=Np F;clear k F))
 have j:=r.out.t x;refine fy (λq=>(wq.tp q.tape).gb q Ns/\aV 0 q.heap.size q Q [(6,9),(2,3),(0,0)]/\q.heap[X]?=Nq (.cells #[.int .i64 (-1),.int .i64 2] 26 (0,0))/\aj 0 q.heap.size q s [1,2]/\aj 0 q.heap.size q v7 [0,1,2]/\RowsIn 0 q.heap.size q v9 [[0,2],[1,3]]) ⟨gb g6 (tpg j),d5.kn j,bk j x6,s6.kn j,m6.kn j,O⟩ λu7 G=>?_;obtain⟨g7,c9,x7,s7,m7,r7⟩:=G;clear j x r p C O g6 d5 x6 s6 m6;refine EL.sp D A z λT=>?_;go_wp2_with (first
  | (go_at_call 80;refine(eY 12 _).mono ?_;rintro e L ⟨V,rfl,d,a,b⟩;have r:=Np d;have p:=Np a;have C:=Np b;obtain⟨I,H,rfl,-,-⟩:=a.cell;clear d a b)
  | (go_at_call 44;refine(Gd _ (bJ 12) 6 _ (p.mono (OE _) (Nv _)) (fG (by omega))).mono ?_;rintro e P ⟨e9,rfl,k,F⟩;rw[JD] at F;have x:=Np k;have O:=Np F;clear k F))
 have j:=r.out.t x;refine fy (λq=>(wq.tp q.tape).gb q Ns/\aV 0 q.heap.size q Q [(6,9),(2,3),(0,0)]/\q.heap[X]?=Nq (.cells #[.int .i64 (-1),.int .i64 2] 26 (0,0))/\aj 0 q.heap.size q s [1,2]/\aj 0 q.heap.size q v7 [0,1,2]/\RowsIn 0 q.heap.size q v9 [[0,2],[1,3]]/\aj 0 q.heap.size q e9 [0,1,2]) ⟨gb g7 (tpg j),c9.kn j,bk j x7,s7.kn j,m7.kn j,r7.kn j,O⟩ λu8 G=>?_;obtain⟨g8,c8,x8,s8,m8,r8,o8⟩:=G;clear j x r p C O g7 c9 x7 s7 m7 r7;refine EL.sp D A z λT=>?_;have GA:=Np (NN (u8.tp T) Ns);have c0:=aa (w:=u8.tp T) x8 (o:=0) rfl;have c1:=aa (w:=u8.tp T) x8 (o:=1) rfl;have v1:=λ(w:Nt)=>If (-1) 2 (-1) 2 w;have v0:=sK;go_wp2_with (fail);refine(tn 0 _ 0 _ _ _ [(6,9),(2,3),(0,0)] [(6,9),(2,3),(0,0)] _ (aV.kept (w:=u8.tp T) c8 (Nr (u8.tp T) _ Ns) (by simp)) (DF (NL _ _) rfl)).mono ?_;rintro e wA ⟨rfl,b8⟩;have Y:=(Nr (u8.tp T) _ Ns).t b8;have GA:=Np Y;have S8:=Np (s8.kn Y);have M8:=Np (m8.kn Y);have R8:=Np (r8.kn Y);have O8:=Np (o8.kn Y);clear Y b8 c0 c1 s8 m8 r8 o8 c8;rw[decide_eq_true (show([(6,9),(2,3),(0,0)]:Nu (NH × NH))=[(6,9),(2,3),(0,0)] from rfl)];go_wp2_with (fail);refine(dH 0 _ 0 _ _ _ [1,2] [1,2] _ (S8.alloc _) (dX _ [1,2] rfl (by decide))).mono ?_;rintro e wB ⟨rfl,b7⟩;have gB:=(Nr wA _ Ns).t b7;have GB:=Np (GA.t gB);have M9:=Np (M8.kn (T:=wA.tape) gB);have O:=Np (R8.kn (T:=wA.tape) gB);have O9:=Np (O8.kn (T:=wA.tape) gB);clear gB b7 GA S8 M8 R8 O8;rw[decide_eq_true (show([1,2]:Nu NH)=[1,2] from rfl)];go_wp2_with (fail);refine(dH 0 _ 0 _ _ _ [0,1,2] [0,1,2] _ (M9.alloc _) (dX _ [0,1,2] rfl (by decide))).mono ?_;rintro e wC ⟨rfl,b6⟩;have gC:=(Nr wB _ Ns).t b6;have GC:=Np (GB.t gC);have RC:=Np (O.kn (T:=wB.tape) gC);have OC:=Np (O9.kn (T:=wB.tape) gC);clear gC b6 GB M9 O O9;rw[decide_eq_true (show([0,1,2]:Nu NH)=[0,1,2] from rfl)];go_wp2_with (fail);refine(we 0 _ 0 _ _ _ [[0,2],[1,3]] [[0,2],[1,3]] _ (RC.kept ((Nr _ _ Ns).t ((Nr _ _ Ns).t (Nr _ _ Ns)))) (Bh wC)).mono ?_;rintro e wD ⟨rfl,b0⟩;have gD:=((Nr wC _ Ns).t ((Nr _ _ Ns).t (Nr _ _ Ns))).t b0;have GD:=Np (GC.t gD);have OD:=Np (OC.kn (T:=wC.tape) gD);clear gD b0 GC RC OC;rw[decide_eq_true (show([[0,2],[1,3]]:Nu (Nu NH))=[[0,2],[1,3]] from rfl)];go_wp2_with (fail);refine(dH 0 _ 0 _ _ _ [0,1,2] [0,1,2] _ (OD.alloc _) (dX _ [0,1,2] rfl (by decide))).mono ?_;rintro e wE ⟨rfl,a9⟩;have gE:=GD.out.t ((Nr wD _ Ns).t a9);have GE:=Np gE;clear gE a9 GD OD;rw[decide_eq_true (show([0,1,2]:Nu NH)=[0,1,2] from rfl)];go_wp2;refine fy (λq=>(wq.tp q.tape).gb q Ns) (gb g8 (tpg GE)) λu9 g9=>?_;refine EL.retS D A z ?_;exact HR _ _ u9 ⟨rfl,g9⟩
end
end
section
open Go Go.RowKit Go.Co Go.Sim Go.Conc Go.ConcN
def Iq.yok{n:NA}{j:Nu Par}{i:NH}(h:Iq n j i)(l:n<=5):YOk j i:=⟨by have:=h.len;omega,λp k=>by
 have:=h.each p k;have w:=this.a;have v:=this.b;have u:=this.c;have t:=this.d;have s:=this.e;have r:=this.f;have q:=this.g;have o:=this.h;omega,by have:=h.l1;omega,by have:=h.l2;omega⟩
def DK{f:Pl}{fn:Func}{c0:Qs}{a:NJ Ny}(c:Ya.funcs[f]?=Nq fn)(b:fn.body=Nq c0) :OT Ya f a .normal=(Oq f).at ⟨a++OY (fn.ntmps - a.size) NG,[]⟩ [.code c0]:=by
 simp[OT,c,b,Frame.at,Oq]
section
variable[J:JunkSet]{Post:Ny->Nt->Prop}{W:Nt}
end
end
section
open Go Go.RowKit
def Gx(z t:NA)(v:Ny)(l:Nu NH)(w:Nt)(F:aj z t w v l)(D:t<=w.heap.size)(O:l.length<=1000) :Oz Ya 28 #[v] w λe r=>∃g,e=.returned g/\w.gb r Ns/\r.ownsRow w.heap.size 3 1 g l.length (l.map (Og .i64)):=by
 have⟨A,p,n,k,i⟩:=PM Tp.info3p;obtain⟨base,q,rfl,C,f⟩:=F;rcases base with _ | y
 ·obtain rfl:l=[]:=OK λh=>by have⟨_,_,_,_,e,_⟩:=f h;cases e
  clear f;go_enter Tp.x28,WJ;go_wp2;go_ret;exact⟨_,rfl,Nr _ _ Ns,rfl,.inr ⟨_,0,#[],rfl,Nv _,NL _ _,Nv _,by decide,rfl,rfl⟩⟩
 ·have s:∀j u,(l.map (Og .i64))[j]?=Nq u->(w.alloc (.cells #[] 3)).cell? (y.add j)=Nq u:=λj u c=>by
   rw[Pa] at c;cases hj:l[j]? with
   | none=>rw[hj] at c;cases c
   | some x=>
    rw[hj] at c;cases c;have d:=(NT.1 hj).1;have⟨B,o,S,R,e,Q,P,H,G⟩:=f (by rintro rfl;simp at d);cases e;have:=G j d;rw[hj] at this;exact dU (aa (aE H) this)
  have L:=Np s;clear f s;go_enter Tp.x28,WJ;go_wp2_with (at_builtin;(refine Rv _ rfl _ _ 29 rfl w.heap.size 3 A _ 1 8 Tp.und29' p n k i rfl (by decide) (.slice (Nq w.heap.size) 0 0) 0 [] rfl ⟨rfl,.inr ⟨_,0,#[],rfl,Nv _,NL _ _,Nv _,by decide,rfl,rfl⟩⟩ y l.length q (l.map (Og .i64)) rfl (by simp) L (by intro u c;simp at c;obtain⟨x,_,rfl⟩:=c;rfl) (by unfold Rh;omega) (by omega) (by simp) ?_);intro g N a b _;have I:=Np a;have M:=Np b;clear a b);go_ret;refine⟨_,rfl,(Nr _ _ Ns).andThen M (λj e=>.inl ?_),by simpa using I.out⟩;simp[OG] at e;omega
end
section
open Go.RowKit
def aS(b c:NA)(w:Nt)(v:Ny)(l:Nu NH):Prop :=
 ∃base a,v=.slice base l.length a/\(l.length:NH)<=1000000 /\
  (l≠[]->∃B o,base=Nq ⟨B,o,Ns⟩/\b<=B/\B<c/\B<w.heap.size/\∀i,i<l.length->w.cell? ⟨B,o+i,Ns⟩=Nq (.int .i64 (l[i]?.getD 0)))
def aj.g{a b:NA}{w:Nt}{v:Ny}{l:Nu NH}(h:aj a b w v l):aS a b w v l:=h.cell
def aS.cell{b c:NA}{w:Nt}{v:Ny}{l:Nu NH}(h:aS b c w v l):∃base a,v=.slice base l.length a/\(l.length:NH)<=1000000 /\(l≠[]->∃B o,base=Nq ⟨B,o,Ns⟩/\b<=B/\B<c/\B<w.heap.size/\∀i,i<l.length->w.cell? ⟨B,o+i,Ns⟩=Nq (.int .i64 (l[i]?.getD 0))):=h
def aS.kept{d a:NA}{w w':Nt}{v:Ny}{l:Nu NH}{row:NO NA}(h:aS d a w v l)(g:w.gb w' row)(j:∀R,row=Nq R->R<d\/a<=R:=by simp):aS d a w' v l:=by
 obtain⟨b,c,rfl,k,t⟩:=h;refine⟨b,c,rfl,k,λf=>?_⟩;obtain⟨B,o,rfl,s,r,q,p⟩:=t f;refine⟨B,o,rfl,s,r,NX q g.size,λi a=>g.cell (p i a) (λe=>?_)⟩;have:=j B e.symm;omega
def aS.mono{g i a d:NA}{w:Nt}{v:Ny}{l:Nu NH}(h:aS g i w v l)(t:a<=g)(s:i<=d):aS a d w v l:=by
 obtain⟨b,c,rfl,j,p⟩:=h;refine⟨b,c,rfl,j,λf=>?_⟩;have⟨B,o,e,r,q,n,k⟩:=p f;exact⟨B,o,e,by omega,by omega,n,k⟩
def aS.take{j d:NA}{w:Nt}{b:NO OX}{c:NA}{l:Nu NH}(h:aS j d w (.slice b l.length c) l)(k:NA)(n:k<=l.length)(p:NA):aS j d w (.slice b k p) (l.take k):=by
 obtain⟨base,x,e,y,q⟩:=h;injection e with g _ _;subst g;have a:(l.take k).length=k:=by simp;omega
 refine⟨b,p,by rw[a],by rw[a];omega,λf=>?_⟩;have r:0<k:=Nat.pos_of_ne_zero λe=>f (by rw[e];rfl);have⟨B,o,g,v,u,t,s⟩:=q (by intro e;rw[e] at n;simp at n;omega);refine⟨B,o,g,v,u,t,λi d=>?_⟩;rw[a] at d;rw[s i (by omega),PI d]
def bH(c d:NA)(w:Nt)(v:Ny)(a:Nu Par):Prop :=
 ∃base b,v=.slice base a.length b/\(a.length:NH)<=1000000 /\
  (a≠[]->∃B o,base=Nq ⟨B,o,Ns⟩/\c<=B/\B<d/\B<w.heap.size/\∀i,i<a.length->∃p,a[i]?=Nq p/\w.cell? ⟨B,o+i*4,Ns⟩=Nq (.int .i64 p.mn)/\w.cell? ⟨B,o+i*4+1,Ns⟩=Nq (.int .i64 p.mx)/\w.cell? ⟨B,o+i*4+2,Ns⟩=Nq (.int .i64 p.bears)/\w.cell? ⟨B,o+i*4+3,Ns⟩=Nq (.int .i64 p.tall))
def aD.g{b c:NA}{w:Nt}{v:Ny}{a:Nu Par}(h:aD b c w v a):bH b c w v a:=h.cell
def bH.cell{c d:NA}{w:Nt}{v:Ny}{a:Nu Par}(h:bH c d w v a):∃base b,v=.slice base a.length b/\(a.length:NH)<=1000000 /\(a≠[]->∃B o,base=Nq ⟨B,o,Ns⟩/\c<=B/\B<d/\B<w.heap.size/\∀i,i<a.length->∃p,a[i]?=Nq p/\w.cell? ⟨B,o+i*4,Ns⟩=Nq (.int .i64 p.mn)/\w.cell? ⟨B,o+i*4+1,Ns⟩=Nq (.int .i64 p.mx)/\w.cell? ⟨B,o+i*4+2,Ns⟩=Nq (.int .i64 p.bears)/\w.cell? ⟨B,o+i*4+3,Ns⟩=Nq (.int .i64 p.tall)):=h
def bH.kept{g a:NA}{w w':Nt}{v:Ny}{k:Nu Par}{row:NO NA}(h:bH g a w v k)(d:w.gb w' row)(l:∀R,row=Nq R->R<g\/a<=R:=by simp):bH g a w' v k:=by
 obtain⟨b,c,rfl,q,x⟩:=h;refine⟨b,c,rfl,q,λj=>?_⟩;obtain⟨B,o,rfl,u,t,s,r⟩:=x j;have f:Nq B≠row:=λe=>by have:=l B e.symm;omega
 refine⟨B,o,rfl,u,t,NX s d.size,λi a=>?_⟩;have⟨p,D,C,A,z,y⟩:=r i a;exact⟨p,D,d.cell C f,d.cell A f,d.cell z f,d.cell y f⟩
def bH.mono{i j a d:NA}{w:Nt}{v:Ny}{g:Nu Par}(h:bH i j w v g)(t:a<=i)(s:j<=d):bH a d w v g:=by
 obtain⟨b,c,rfl,k,p⟩:=h;refine⟨b,c,rfl,k,λf=>?_⟩;have⟨B,o,e,r,q,n,l⟩:=p f;exact⟨B,o,e,by omega,by omega,n,l⟩
def zE(d e:NA)(w:Nt)(v:Ny)(c:Nu Par)(a:NH):Prop:=∃b,v=.agg #[b,a]/\bH d e w b c
def DH(Q X P W:NA)(C B:Ny)(a b:Nu NH)(w:Nt)(F:aS Q X w C a)(D:aS P W w B b) :Oz Ya 31 #[C,B] w λe O=>e=.returned (.bool (decide (a=b)))/\w.gb O Ns:=by
 obtain⟨ba,ca,rfl,T,p⟩:=F.cell;obtain⟨bb,cb,rfl,S,G⟩:=D.cell;have⟨H1,H2⟩:=aQ p G;clear p G F D;by_cases c:a.length=b.length
 ·have H:=Np c;have h:((a.length:NH) != (b.length:NH))=NC:=by rw[c];simp
  clear c;go_enter Tp.x31,WC;go_wp2;go_loopw [5] (λu wr=>∃k:NA,u=.int .i64 k/\k<=a.length/\(∀i,i<k->a[i]?=b[i]?)/\w.gb wr Ns) (λu _=>(a.length - OP u).toNat)
  case atStart=>exact⟨0,rfl,by omega,λi s=>absurd s (by omega),NN _ _⟩
  case round=>
   obtain⟨k,rfl,hk,j,l⟩:=hrel;have⟨r,A⟩:=aQ j l;clear j;by_cases f:k<a.length
   ·have d:k<b.length:=by have:=H.out;omega
    obtain⟨A1,o1,rfl,a9,a8,a7,o⟩:=H1.out (by intro e;rw[e] at f;simp at f);obtain⟨B1,o2,rfl,a6,Z,Y,n⟩:=H2.out (by intro e;rw[e] at d;simp at d);have N:=l.cl (o k f);have M:=l.cl (n k d);have z:a[k]?=Nq (a[k]?.getD 0):=by simp[ND f]
    have v:b[k]?=Nq (b[k]?.getD 0):=by simp[ND d]
    generalize a[k]?.getD 0=x at N z;generalize b[k]?.getD 0=y at M v;have U:(k:NH)<(b.length:NH):=by omega
    have V:(k:NH)<(a.length:NH):=by omega
    have⟨L,I⟩:=aQ z v;clear o n l z v;by_cases g:x=y
    ·subst g;go_upto_region 6 with(fail);go_quiet (fail);go_wp2;go_roundw
     case rel=>
      refine⟨k+1,by simp,by omega,λi s=>?_,A.t (ax _ _ _)⟩;by_cases e:i=k
      ·rw[e,L,I]
      ·exact r i (by omega)
     case measure=>simp[OP];omega
    ·have q:=Np (show decide (a=b)=NC by
      rw[decide_eq_false_iff_not];intro e;have p:=L.out;rw[e,I] at p;exact g (by cases p;rfl))
     have R:(x != y)=NB:=by simp[g]
     go_upto_region 6 with(fail);go_quiet (fail);go_wp2;go_ret;exact⟨by rw[q];rfl,A.t (ax _ _ _)⟩
   ·obtain rfl:k=a.length:=by omega
    have q:=Np (show decide (a=b)=NB by
     rw[decide_eq_true_eq];refine RO λi=>?_;by_cases s:i<a.length
     ·exact r i s
     ·rw[OO (by omega),OO (by have:=H.out;omega)])
    clear l;go_wp2;go_ret;exact⟨by rw[q];rfl,A⟩
 ·have q:=Np (show decide (a=b)=NC by
   rw[decide_eq_false_iff_not];intro e;exact c (by rw[e]))
  have h:((a.length:NH) != (b.length:NH))=NB:=by simp;omega
  clear c;go_enter Tp.x31,WC;go_wp2;go_ret;exact⟨by rw[q];rfl,NN _ _⟩
def DO(z t:NA)(v:Ny)(l:Nu NH)(w:Nt)(F:aS z t w v l)(D:t<=w.heap.size)(N:l.length<=1000) :Oz Ya 28 #[v] w λe r=>∃g,e=.returned g/\w.gb r Ns/\r.ownsRow w.heap.size 3 1 g l.length (l.map (Og .i64)):=by
 have⟨A,p,n,k,i⟩:=PM Tp.info3p;obtain⟨base,q,rfl,C,f⟩:=F;rcases base with _ | y
 ·obtain rfl:l=[]:=OK λh=>by have⟨_,_,e,_⟩:=f h;cases e
  clear f;go_enter Tp.x28,WJ;go_wp2;go_ret;exact⟨_,rfl,Nr _ _ Ns,rfl,.inr ⟨_,0,#[],rfl,Nv _,NL _ _,Nv _,by decide,rfl,rfl⟩⟩
 ·have s:∀j u,(l.map (Og .i64))[j]?=Nq u->(w.alloc (.cells #[] 3)).cell? (y.add j)=Nq u:=λj u c=>by
   rw[Pa] at c;cases hj:l[j]? with
   | none=>rw[hj] at c;cases c
   | some x=>
    rw[hj] at c;cases c;have d:=(NT.1 hj).1;have⟨B,o,e,Q,P,O,G⟩:=f (by rintro rfl;simp at d);cases e;have:=G j d;rw[hj] at this;exact dU ((Nr w _ Ns).cl this)
  have I:=Np s;clear f s;go_enter Tp.x28,WJ;go_wp2_with (at_builtin;(refine Rv _ rfl _ _ 29 rfl w.heap.size 3 A _ 1 8 Tp.und29' p n k i rfl (by decide) (.slice (Nq w.heap.size) 0 0) 0 [] rfl ⟨rfl,.inr ⟨_,0,#[],rfl,Nv _,NL _ _,Nv _,by decide,rfl,rfl⟩⟩ y l.length q (l.map (Og .i64)) rfl (by simp) I (by intro u c;simp at c;obtain⟨x,_,rfl⟩:=c;rfl) (by unfold Rh;omega) (by omega) (by simp) ?_);intro g M a b _;have H:=Np a;have L:=Np b;clear a b);go_ret;refine⟨_,rfl,(Nr _ _ Ns).andThen L (λj e=>.inl ?_),by simpa using H.out⟩;simp[OG] at e;omega
end
section
open Go.RowKit
section
variable{P:NR}
def iV{d:NJ PE}{o:PE}{a:QF}{w:Nt}{K:QF->Nt->Prop}{Q:Ux->QF->Nt->Prop}{E:Prop}(g:Oy o (PH d a.tmps)=NB)(s x:OQ)(t:NZ)(k:o.op=.call { callee:=.builtin .append,args:=#[s,x],argTypes:=#[t,t] })(base:NA)(e:NZ)(i:Sd)(z:Ny)(size UQ:NA)(ht:P.underlying t=Nq (.slice e))(hi:P.info? e=Nq i)(hz:i.zero=Nq z)(hsize:i.size=size)(hby:i.bytes=UQ)(hzs:z.cells.size=size)(hsz:0<size)(v:Ny)(n:NA)(xs:Nu Ny)(hs:a.eval s=v)(hown:w.ownsRow base e size v n xs)(ad:OX)(m c:NA)(news:Nu Ny)(hx:a.eval x=.slice (Nq ad) m c)(hl:news.length=m*size)(hnews:∀j u,news[j]?=Nq u->w.cell? (ad.add j)=Nq u)(h1:∀u∈news,u.oneCell'=NB)(h63:n+m<=Rh)(hbytes:(n+m)*UQ<=140737488355328)(hbase:base<=w.heap.size)(h:∀f b,b.ownsRow base e size f (n+m) (xs++news)->w.gb b v.ownBlock->K (a.put o.dst f) b) :if Oy o (PH d a.tmps)=NB then Oper.wp P o a w K Q else E:=by
 rw[if_pos g];exact wp_append_own w s x t k base e i z size UQ ht hi hz hsize hby hzs hsz v n xs hs hown ad m c news hx hl hnews h1 h63 hbytes hbase λf b p l _=>h f b p l
end
def uq(a:Nu Par):(fJ a).length=a.length*4:=by
 induction a with
 | nil=>rfl
 | cons p t b=>unfold fJ at b ⊢;rw[Qx,Pi,b];simp[iI];omega
def Dk(c:Nu Par):∀u∈fJ c,u.oneCell'=NB:=by
 intro u a;unfold fJ at a;obtain⟨p,-,b⟩:=Sc.1 a;simp[iI] at b;rcases b with rfl | rfl | rfl | rfl<;>rfl
def run_append_nil{P:NR}{t a e:NZ}{i:Sd}{g c:NA}{w:Nt}(b:P.underlying t=Nq (.slice e))(d:P.info? e=Nq i):(Rj #[t,t] a #[.slice (Nq g) 0 0,.slice Ns 0 c]).run P w=.ok (.slice (Nq g) 0 0) w:=by
 simp[Rj,TZ b,UI,RV,d,VX,Uu,Us]
def Mf{q t:NA}{w:Nt}{f:OX}{g:NA}{c:Nu Par}(h:bH q t w (.slice (Nq f) c.length g) c):∀j u,(fJ c)[j]?=Nq u->w.cell? (f.add j)=Nq u:=λj u d=>by
 have s:j<c.length*4:=by have:=(NT.1 d).1;rwa [uq] at this
 obtain⟨_,_,e,-,h⟩:=h;cases e;obtain⟨B,o,e,-,-,-,v⟩:=h (by rintro rfl;simp at s);cases e;have⟨p,r,n,l,k,i⟩:=v (j / 4) (by omega);have a:=uu c (j / 4) p r (j % 4) (Nat.mod_lt _ (by omega));rw[show j / 4*4+j % 4=j by omega,d] at a;have b:j % 4=0\/j % 4=1\/j % 4=2\/j % 4=3:=by omega
 rcases b with b | b | b | b;all_goals
  rw[b] at a;simp[iI] at a;subst a;refine dU ?_
 ·rw[show o+j=o+j / 4*4 by omega];exact n
 ·rw[show o+j=o+j / 4*4+1 by omega];exact l
 ·rw[show o+j=o+j / 4*4+2 by omega];exact k
 ·rw[show o+j=o+j / 4*4+3 by omega];exact i
def jF{f:NJ PE}{o:PE}{a:QF}{w:Nt}{K:QF->Nt->Prop}{Q:Ux->QF->Nt->Prop}{E:Prop}(s x:OQ){C G L g n:NA}{p:NO OX}{b:Nu Par}(A:bH C G w (.slice p b.length n) b)(z:w.heap[g]?=Nq (.cells #[] 28 (0,0)))(I:L<=g)(R:b.length<=1000)(h:∀r q l,l.ownsRow L 28 4 (.slice r b.length q) b.length (fJ b)->w.gb l (Nq g)->K (a.put o.dst (.slice r b.length q)) l)(j:Oy o (PH f a.tmps)=NB:=by kernel_rfl)(ho:o.op=.call { callee:=.builtin .append,args:=#[s,x],argTypes:=#[22,22] }:=by rfl)(hs:a.eval s=.slice (Nq g) 0 0:=by rfl)(hx:a.eval x=.slice p b.length n:=by rfl) :if Oy o (PH f a.tmps)=NB then Oper.wp Ya o a w K Q else E:=by
 have⟨D,i,v,u,t⟩:=PM Tp.info28p;have d:w.ownsRow L 28 4 (.slice (Nq g) 0 0) 0 []:=⟨rfl,.inr ⟨g,0,#[],rfl,I,z,Nv _,by decide,rfl,rfl⟩⟩;have H:=(Nz.1 z).1;rcases p with _ | O
 ·obtain rfl:b=[]:=OK λF=>by obtain⟨_,_,e,-,k⟩:=A;cases e;have⟨_,_,e,_⟩:=k F;cases e
  rw[if_pos j];unfold Oper.wp QN;simp only[ho,resolve,invoke,builtin,PF,SZ,PC,SH,Qj,Sx,hs,hx,NU,run_append_nil Tp.und22 i];exact h _ _ _ d (NN _ _)
 ·refine iV j s x 22 ho L 28 D _ 4 32 Tp.und22 i v u t rfl (by decide) _ 0 [] hs d O b.length n (fJ b) hx (uq b) (Mf A) (Dk b) (by unfold Rh;omega) (by omega) (by omega) λB l k M=>?_;obtain⟨r,q,rfl⟩:∃a c,B=.slice a b.length c:=by
   rcases k.2 with⟨rfl,S⟩ | ⟨g,y,N,rfl,_⟩
   ·exact⟨Ns,0,by rw[show b.length=0 by omega]⟩
   ·exact⟨_,y,by rw[Oc]⟩
  rw[Oc,On] at k;exact h _ _ _ k M
def qO{b:NJ PE}{o:PE}{a:QF}{w:Nt}{K:QF->Nt->Prop}{Q:Ux->QF->Nt->Prop}{E:Prop}(s x:OQ){L G n i:NA}{j:NO OX}{f:Nu Ny}{p:Par}(d:w.ownsRow L 28 4 (.slice j n i) n f)(z:w.heap[G]?=Nq (.cells #[p.mn,p.mx,p.bears,p.tall] 28 (0,0)))(C:n<=1000)(y:L<=w.heap.size)(h:∀g c e,e.ownsRow L 28 4 (.slice (Nq ⟨g,0,Ns⟩) (n+1) c) (n+1) (f++iI p)->w.gb e (OS j n i).ownBlock->K (a.put o.dst (.slice (Nq ⟨g,0,Ns⟩) (n+1) c)) e)(t:Oy o (PH b a.tmps)=NB:=by kernel_rfl)(ho:o.op=.call { callee:=.builtin .append,args:=#[s,x],argTypes:=#[22,22] }:=by rfl)(hs:a.eval s=.slice j n i:=by rfl)(hx:a.eval x=.slice (Nq G) 1 1:=by rfl) :if Oy o (PH b a.tmps)=NB then Oper.wp Ya o a w K Q else E:=by
 have⟨v,r,q,l,k⟩:=PM Tp.info28p;refine iV t s x 22 ho L 28 v _ 4 32 Tp.und22 r q l k rfl (by decide) _ n f hs d ⟨G,0,Ns⟩ 1 1 (iI p) hx rfl (Pt z) (by simp[iI,PT]) (by unfold Rh;omega) (by omega) y λB e u A=>?_;obtain⟨g,c,rfl⟩:=ownsRow_succ u;exact h _ _ _ u A
def wh(U O:NA)(M:Ny)(c:Nu Par)(a:NH)(w:Nt)(Z:zE U O w M c a)(Y:O<=w.heap.size)(X:c.length<=1000) :Oz Ya 27 #[M] w λe D=>∃N,e=.returned (.agg #[N,a])/\w.gb D Ns/\aD w.heap.size D.heap.size D N c:=by
 obtain⟨pv,rfl,H⟩:=Z;obtain⟨C,B,rfl,G,-⟩:=H.cell;have⟨A,n,Q,p,s,k,u,q⟩:=bY w (.cells #[.slice C c.length B,a] 24) (.cells #[.slice Ns 0 0,.int .i64 0] 24);have⟨f,HW,L,T,S,HP⟩:=rS u p Q s q H;have l:=Np (show ∀W,n.gb W Ns->W.cell? A=Nq (.slice C c.length B)/\W.cell? ⟨A,1,Ns⟩=Nq (.int .i64 a) from λW h=>⟨aa (bk h k) rfl,aa (bk h k) rfl⟩);clear H p Q s k u q;go_enter Tp.x27,Tryz.ntmps27;go_upto_region 1 with(fail);rw[<- L,<- HW];refine aI 7 (λW=>W.cell? A=Nq (.slice C c.length B)/\W.cell? ⟨A,1,Ns⟩=Nq (.int .i64 a)) (by kernel_rfl) (by kernel_rfl) (l _ (ai n Ns)) (λhHeld=>?_);simp only[NQ,NU,Oh,OV,Oc,Oj,Ol,Ow,On,Oa];refine tk 1 (h:=tk 2 (h:=tk 4 (h:=tk 5 (h:=?_))));try go_frame
 refine rdc 0 λK r=>?_;go_simp;have I:=Np ((ai n Ns).t (Nr n.drew (.cells #[] 28) Ns));refine r.out _ _ (l _ I) (λhHeld=>?_);clear r K;try go_frame
 refine rdc 3 λK r=>?_;refine jF (.tmp 3) (.tmp 5) (HP.kept (T.t I)) (NL n.drew _) (show A+2<=n.heap.size by have:=S.out;omega) X λz y x g d=>?_;have HO:=Np g;have b:=Np (Qy (row:=Ns) I d (λj e=>.inl (by cases e;exact Nv _)));clear g d;refine r.out _ _ (l _ b) (λhHeld=>?_);clear r K;try go_frame
 refine tk 6 (h:=?_);try go_frame
 refine⟨by kernel_rfl,?_⟩;simp only[Oi,OH];have z0:=aa (bk b f) (o:=0) rfl;have z1:=aa (bk b f) (o:=1) rfl;have z2:=aA (o:=0) (bk b f);have z3:=aA (o:=1) (bk b f);clear hHeld;go_wp2;have V:=ar (o:=1) (v:=.int .i64 a) (ar (o:=0) (v:=.slice z c.length y) (bk b f));have i:=(an x (A+1) 0 (.slice z c.length y)).t (an _ (A+1) 1 (.int .i64 a));have a6:A+1<x.heap.size:=by have:=b.out.size;have:=S.out;omega
 have F:aD (A+2) x.heap.size x (.slice z c.length y) c:=aD.own HO rfl G;exact Qi (v:=.agg #[.slice z c.length y,a]) (by simp[Qo,Tryz.results27,go_sem,OA,V]) rfl ⟨_,rfl,(T.t b).andThen (row':=Nq (A+1)) i (by rintro j e;cases e;exact .inl (by have:=L.out;omega)),(F.kept i (by rintro R e;cases e;exact .inl (by omega))).mono (by have:=L.out;omega) i.size⟩
def Kq(f:Nt)(A:NA)(c:NH)(b:Nu Par)(p:Par)(a:Nt):Prop :=
 ∃e d,a.heap[A]?=Nq (.cells #[.slice e (b.length+1) d,c] 24 (0,0))/\f.gb a (Nq A)/\aD (A+3) a.heap.size a (.slice e (b.length+1) d) (b++[p])
def ED{h d:Nt}{A g c:NA}{f:NH}{a:Nu Par}{p:Par}{v:Ny}(k:d.heap[A]?=Nq (.cells #[v,f] 24 (0,0)))(j:h.gb d Ns)(i:d.ownsRow (A+3) 28 4 (.slice (Nq g) (a.length+1) c) (a.length+1) (fJ a++iI p))(l:a.length<=1000) :Kq h A f a p (d.setCell A (.slice (Nq g) (a.length+1) c)):=by
 rw[<- rl] at i;have b:=an d A 0 (.slice (Nq g) (a.length+1) c);exact⟨_,_,ar (o:=0) k,(j.but _).t b,((aD.own i (by simp) (by simp;omega)).kept b (by rintro R e;cases e;exact .inl (by omega))).mono (Nv _) b.size⟩
def CF(lo hi:NA)(pv:Ny)(u:Nu Par)(l:NH)(p:Par)(w:Nt)(hP:bH lo hi w pv u)(F:u.length<=1000) :Oz Ya 38 #[.agg #[pv,l],.agg #[p.mn,p.mx,p.bears,p.tall]] w λe w'=>∃v',e=.returned (.agg #[v',l])/\w.gb w' Ns/\aD w.heap.size w'.heap.size w' v' (u++[p]):=by
 obtain⟨L,I,rfl,e4,-⟩:=hP.cell;obtain⟨A,Q⟩:∃A,A=w.heap.size:=⟨_,rfl⟩;obtain⟨k,r⟩:∃k,k=((w.alloc (.cells #[.slice L u.length I,l] 24)).alloc (.cells #[p.mn,p.mx,p.bears,p.tall] 28)).alloc (.cells #[.slice Ns 0 0,.int .i64 0] 24):=⟨_,rfl⟩;have U:w.gb k Ns:=by rw[r];exact((Nr _ _ Ns).t (Nr _ _ Ns)).t (Nr _ _ Ns)
 have G:k.heap[A]?=Nq (.cells #[.slice L u.length I,l] 24 (0,0)):=by rw[r,Q];exact aE (aE (NL w _))
 have y:k.heap[A+1]?=Nq (.cells #[p.mn,p.mx,p.bears,p.tall] 28 (0,0)):=by
  rw[r];have:=NL (w.alloc (.cells #[.slice L u.length I,l] 24)) (.cells #[p.mn,p.mx,p.bears,p.tall] 28);rw[NW,<- Q] at this;exact aE this
 have V:k.heap[A+2]?=Nq (.cells #[.slice Ns 0 0,.int .i64 0] 24 (0,0)):=by
  rw[r];have:=NL ((w.alloc (.cells #[.slice L u.length I,l] 24)).alloc (.cells #[p.mn,p.mx,p.bears,p.tall] 28)) (.cells #[.slice Ns 0 0,.int .i64 0] 24);rw[NW,NW,<- Q] at this;exact this
 have T:k.heap.size=A+3:=by rw[r,NW,NW,NW,Q]
 have⟨q,c3,HW,Y,X,z,HP⟩:=AH G V r Q U T hP;have n:=Np (show ∀W,k.gb W Ns->W.cell? A=Nq (.slice L u.length I)/\W.cell? ⟨A,1,Ns⟩=Nq (.int .i64 l)/\W.cell? (A+1:NA)=Nq (.int .i64 p.mn)/\W.cell? ⟨A+1,1,Ns⟩=Nq (.int .i64 p.mx)/\W.cell? ⟨A+1,2,Ns⟩=Nq (.int .i64 p.bears)/\W.cell? ⟨A+1,3,Ns⟩=Nq (.int .i64 p.tall) from λW h=>⟨aa (bk h G) rfl,aa (bk h G) rfl,aa (bk h y) rfl,aa (bk h y) rfl,aa (bk h y) rfl,aa (bk h y) rfl⟩);clear hP r Q U G y V T;go_enter Tp.x38,Tryz.ntmps38;go_upto_region 1 with(fail);rw[<- Y,<- HW];go_cut [] from 5 to 13 (λwx=>Kq k A l u p wx)
 case first=>
  refine aI 8 (λW=>W.cell? A=Nq (.slice L u.length I)/\W.cell? ⟨A,1,Ns⟩=Nq (.int .i64 l)/\W.cell? (A+1:NA)=Nq (.int .i64 p.mn)/\W.cell? ⟨A+1,1,Ns⟩=Nq (.int .i64 p.mx)/\W.cell? ⟨A+1,2,Ns⟩=Nq (.int .i64 p.bears)/\W.cell? ⟨A+1,3,Ns⟩=Nq (.int .i64 p.tall)) (by kernel_rfl) (by kernel_rfl) (n _ (ai k Ns)) (λhHeld=>?_);simp only[NQ,NU,Oh,OV,Oc,Oj,Ol,Ow,On,Oa];refine tk 1 (h:=tk 2 (h:=tk 4 (h:=?_)));try go_frame
  have f:=Np (ai k Ns);refine rdy [0,5] ?_;refine cns 0 (λK i=>?_) (cns 5 (λK i=>?_) bf.nil)
  ·go_simp;have S:=Np (show(k.drew.alloc (.cells #[] 28)).heap[k.heap.size]?=Nq (.cells #[] 28 (0,0)) by have:=NL k.drew (.cells #[] 28);exact this);have s:=Np (show A+3<=k.heap.size by have:=z.out;omega);replace f:=Np (f.t (Nr k.drew (.cells #[] 28) Ns));refine i.out _ _ (n _ f) (λhHeld=>?_);clear i K;try go_frame
   refine rdy [3,5] ?_;refine cns 3 (λK i=>?_) (cns 5 (λK i=>?_) bf.nil)
   ·refine jF (.tmp 5) (.tmp 7) (HP.kept (X.t f)) S (s) F λO N M b a=>?_;have D:=Np b;replace f:=Np (Qy (row:=Ns) f a (λj e=>.inl (by cases e;have:=s.out;have:=z.out;omega)));clear b a;refine i.out _ _ (n _ f) (λhHeld=>?_);clear i K;try go_frame
    refine rdc 5 λK i=>?_;go_simp;have C:=Np (show(M.alloc (.cells #[p.mn,p.mx,p.bears,p.tall] 28)).heap[M.heap.size]?=Nq (.cells #[p.mn,p.mx,p.bears,p.tall] 28 (0,0)) by have:=NL M (.cells #[p.mn,p.mx,p.bears,p.tall] 28);exact this);replace f:=Np (f.t (Nr M (.cells #[p.mn,p.mx,p.bears,p.tall] 28) Ns));replace D:=Np (D.alloc (.cells #[p.mn,p.mx,p.bears,p.tall] 28));refine i.out _ _ (n _ f) (λhHeld=>?_);clear i K;try go_frame
    refine rdc 6 λK i=>?_;refine qO (.tmp 8) (.tmp 10) D C F (by have:=f.out.size;have:=z.out;omega) λg c w6 b a=>?_;have B:=Np b;have d:=Np (Qy (row:=Ns) f a (λj e=>.inl (by have:=D.out.lt j e;have:=z.out;omega)));clear b a;refine i.out _ _ (n _ d) (λhHeld=>?_);clear i K;try go_frame
    refine tk 7 (h:=?_);try go_frame
    refine⟨by kernel_rfl,?_⟩;simp only[Oi,OH];have z0:=aa (bk d q) (o:=0) rfl;have Z:=aA (o:=0) (bk d q);clear hHeld;go_wp2;go_meet;exact ED (bk d q) d B F
   ·go_simp;have C:=Np (show((k.drew.alloc (.cells #[] 28)).alloc (.cells #[p.mn,p.mx,p.bears,p.tall] 28)).heap[k.heap.size+1]?=Nq (.cells #[p.mn,p.mx,p.bears,p.tall] 28 (0,0)) by have:=NL (k.drew.alloc (.cells #[] 28)) (.cells #[p.mn,p.mx,p.bears,p.tall] 28);rw[NW] at this;exact this);replace f:=Np (f.t (Nr (k.drew.alloc (.cells #[] 28)) (.cells #[p.mn,p.mx,p.bears,p.tall] 28) Ns));replace S:=Np (aE (p:=(.cells #[p.mn,p.mx,p.bears,p.tall] 28)) S);refine i.out _ _ (n _ f) (λhHeld=>?_);clear i K;try go_frame
    refine rdc 3 λK i=>?_;refine jF (.tmp 5) (.tmp 7) (HP.kept (X.t f)) S (s) F λO N M b a=>?_;have D:=Np b;replace C:=Np (bk a C);replace f:=Np (Qy (row:=Ns) f a (λj e=>.inl (by cases e;have:=s.out;have:=z.out;omega)));clear b a;refine i.out _ _ (n _ f) (λhHeld=>?_);clear i K;try go_frame
    refine rdc 6 λK i=>?_;refine qO (.tmp 8) (.tmp 10) D C F (by have:=f.out.size;have:=z.out;omega) λg c w6 b a=>?_;have B:=Np b;have d:=Np (Qy (row:=Ns) f a (λj e=>.inl (by have:=D.out.lt j e;have:=z.out;omega)));clear b a;refine i.out _ _ (n _ d) (λhHeld=>?_);clear i K;try go_frame
    refine tk 7 (h:=?_);try go_frame
    refine⟨by kernel_rfl,?_⟩;simp only[Oi,OH];have z0:=aa (bk d q) (o:=0) rfl;have Z:=aA (o:=0) (bk d q);clear hHeld;go_wp2;go_meet;exact ED (bk d q) d B F
  ·go_simp;have C:=Np (show(k.drew.alloc (.cells #[p.mn,p.mx,p.bears,p.tall] 28)).heap[k.heap.size]?=Nq (.cells #[p.mn,p.mx,p.bears,p.tall] 28 (0,0)) by have:=NL k.drew (.cells #[p.mn,p.mx,p.bears,p.tall] 28);exact this);replace f:=Np (f.t (Nr k.drew (.cells #[p.mn,p.mx,p.bears,p.tall] 28) Ns));refine i.out _ _ (n _ f) (λhHeld=>?_);clear i K;try go_frame
   refine rdc 0 λK i=>?_;go_simp;have S:=Np (show((k.drew.alloc (.cells #[p.mn,p.mx,p.bears,p.tall] 28)).alloc (.cells #[] 28)).heap[(k.heap.size+1)]?=Nq (.cells #[] 28 (0,0)) by have:=NL (k.drew.alloc (.cells #[p.mn,p.mx,p.bears,p.tall] 28)) (.cells #[] 28);rw[NW] at this;exact this);have s:=Np (show A+3<=(k.heap.size+1) by have:=z.out;omega);replace f:=Np (f.t (Nr (k.drew.alloc (.cells #[p.mn,p.mx,p.bears,p.tall] 28)) (.cells #[] 28) Ns));replace C:=Np (aE (p:=.cells #[] 28) C);refine i.out _ _ (n _ f) (λhHeld=>?_);clear i K;try go_frame
   refine rdc 3 λK i=>?_;refine jF (.tmp 5) (.tmp 7) (HP.kept (X.t f)) S (s) F λO N M b a=>?_;have D:=Np b;replace C:=Np (bk a C);replace f:=Np (Qy (row:=Ns) f a (λj e=>.inl (by cases e;have:=s.out;have:=z.out;omega)));clear b a;refine i.out _ _ (n _ f) (λhHeld=>?_);clear i K;try go_frame
   refine rdc 6 λK i=>?_;refine qO (.tmp 8) (.tmp 10) D C F (by have:=f.out.size;have:=z.out;omega) λg c w6 b a=>?_;have B:=Np b;have d:=Np (Qy (row:=Ns) f a (λj e=>.inl (by have:=D.out.lt j e;have:=z.out;omega)));clear b a;refine i.out _ _ (n _ d) (λhHeld=>?_);clear i K;try go_frame
   refine tk 7 (h:=?_);try go_frame
   refine⟨by kernel_rfl,?_⟩;simp only[Oi,OH];have z0:=aa (bk d q) (o:=0) rfl;have Z:=aA (o:=0) (bk d q);clear hHeld;go_wp2;go_meet;exact ED (bk d q) d B F
 case rest=>
  obtain⟨O,N,hb,hg,hp⟩:=hcut;have z0:=aa hb (o:=0) rfl;have z1:=aa hb (o:=1) rfl;have x:=bk hg c3;have Z:=aa x (o:=0) rfl;have z3:=aa x (o:=1) rfl;have z4:=aA (o:=0) x;have z5:=aA (o:=1) x;have⟨b9,b6,b8⟩:=bC x hp hg;clear hb x hp hg;go_wp2;have hz:=ar (o:=1) (v:=.int .i64 l) (ar (o:=0) (v:=.slice O (u.length+1) N) b9);have H:=(an wc (A+2) 0 (.slice O (u.length+1) N)).t (an _ (A+2) 1 (.int .i64 l));exact Qi (v:=.agg #[.slice O (u.length+1) N,l]) (by simp[Qo,Tryz.results38,go_sem,OA,hz]) rfl ⟨_,rfl,((NN w Ns).andThen (X.andThen (row:=Ns) b8 (by rintro j e;cases e;exact .inl (by have:=Y.out;omega))) (λj e=>by cases e)).andThen (row':=Nq (A+2)) H (by rintro j e;cases e;exact .inl (by have:=Y.out;omega)),(b6.kept H (by rintro R e;cases e;exact .inl (by omega))).mono (by have:=Y.out;omega) H.size⟩
end
section
open Go.RowKit
def dg:∀(n:NA) (l:Nu NH),l.Nodup->(∀x∈l,0<=x/\x<n)->l.length<=n
 | 0,l,_,h=>by
  cases l with
  | nil=>simp
  | cons x _=>have:=h x (by simp);omega
 | n+1,l,b,h=>by
  by_cases hm:(n:NH)∈l
  ·have d:=dg n (l.erase n) (b.erase _) λx a=>by
    have c:=(b.mem_erase_iff).1 a;have:=h x c.2;have:=c.1;omega
   have:=Ti hm;omega
  ·have:=dg n l b λx a=>by
    have c:=h x a;have:x≠n:=λe=>hm (e ▸ a);omega
   omega
structure OnAt(w:Nt)(Bm Y Bp:NA)(yb pb:NO OX)(yc pc:NA)(ps:Nu Par)(lim:NH)(l:Nu NH):Prop where
 m0:w.cell? Bm=Nq (.int .u8 (bL l:NA))
 y0:w.cell? Y=Nq (.slice yb ps.length yc)
 y1:w.cell? ⟨Y,1,Ns⟩=Nq (.int .i64 lim)
 p0:w.cell? Bp=Nq (.slice pb l.length pc)
 hP:aD 0 w.heap.size w (.slice yb ps.length yc) ps
 hI:aj 0 w.heap.size w (.slice pb l.length pc) l
 pl:l.length<=pc
end
section
def xD(l:Nu NH)(x:NH):tot (l++[x])=tot l+x:=by
 induction l with
 | nil=>simp[tot]
 | cons a t b=>simp only[Oa,tot,b];omega
end
section
open Go.RowKit
@[simp] theorem MS(w:Nt):(method 355 170 (.agg #[]) "gladstone/pile.holds").run Ya w=.ok (241,.agg #[]) w:=by kernel_rfl
@[simp] theorem MR(w:Nt):(method 355 171 (.agg #[]) "gladstone/pile.holds").run Ya w=.ok (242,.agg #[]) w:=by kernel_rfl
def cD(a:Nu Par)(b gx:NA->NH)(l:Nu NH)(i:NA):NH:=xk (!fL a b l i) (!fL a gx l i)
end
section
def pH{g b:NA->NH}(d:∀i,g i<=b i)(l:Nu NH)(k:NA):loadAt g l k<=loadAt b l k:=by
 have c:∀t:Nu NH,tot (t.map λx=>g x.toNat)<=tot (t.map λx=>b x.toNat):=λt=>by
  induction t with
  | nil=>exact Int.le_refl _
  | cons a t e=>simp only[Qj,tot];have:=d a.toNat;omega
 exact c _
def uy{a:Nu Par}{g b:NA->NH}(c:∀i,g i<=b i){l:Nu NH}{k:NA}(h:fL a b l k=NB):fL a g l k=NB:=by
 unfold fL at h ⊢;split at h
 ·have:=pH c l k;have:=of_decide_eq_true h;exact decide_eq_true (by omega)
 ·cases h
def fe{b:Nu Par}{g:NA->NH}{l:Nu NH}:aC b g l=NB↔∀k,k<l.length->fL b g l k=NB:=by
 unfold aC;rw[OF];exact⟨λh k a=>h k (Py.2 a),λh k a=>h k (Py.1 a)⟩
def jG{a:Nu Par}{g b:NA->NH}(d:∀i,g i<=b i){l:Nu NH}(h:aC a b l=NB):aC a g l=NB :=
 fe.2 λk c=>uy d (fe.1 h k c)
def YOk.le{a:Nu Par}{b:NH}(h:YOk a b)(i:NA):pre Par.mn a a.length i<=pre Par.mx a a.length i:=by
 unfold pre;split
 ·rename_i c
  rw[ND c];have:=h.each _ (RL c);simp only;omega
 ·omega

end
section
open Go.RowKit
def xX(lo hi:NA)(T:Ny)(s:Nu Par)(f:NH)(p:Par)(b g:NA)(w:Nt)(hP:bH lo hi w T s)(V:bg w b g)(hg:g<100000) :Oz Ya 25 #[.agg #[T,f],.agg #[p.mn,p.mx,p.bears,p.tall],.pointer (Nq b)] w λe c =>∃d i U S Z,Iq 4 d i/\e=.returned (.slice (Nq ⟨Z,0,Ns⟩) 3 3)/\Tn b (g+31) w c/\w.heap.size<=Z/\c.heap[Z]?=Nq (.cells #[T,f,U,.int .i64 i,S,.int .i64 i] 24 (0,0)) /\aD w.heap.size c.heap.size c U d/\aD w.heap.size c.heap.size c S (d++[p]):=by
 obtain⟨B,z,rfl,d8,hc⟩:=hP.cell;obtain⟨A,w1,hA,l,H,L,I,-⟩:=bY w (.cells #[.slice B s.length z,f] 24) (.cells #[p.mn,p.mx,p.bears,p.tall] 28);have F:bg w1 b g:=by rw[l];exact(V.alloc _).alloc _
 have e8:b<A:=by rw[hA];exact V.lt
 have⟨P,HW,HA,r,R,Q⟩:=rS F l hA H L I;clear hP hc l hA H L I V F;go_enter Tp.x25,Tryz.ntmps25;go_upto_region 1 with(fail);rw[<- HA,<- HW];go_upto_region 2 with(go_at_call 33;refine(zM b g 4 w1 P hg (by omega)).mono ?_;rintro e w2 ⟨d,i,U,C,rfl,G,n⟩;have O:=Np G;have P2:=Np n;have YD:=Np C;obtain⟨x,v,rfl,e4,-⟩:=n.cell;clear G n C);obtain⟨M,Y⟩:∃M,M=w2.heap.size:=⟨_,rfl⟩;rw[<- Y];have a:=Nr w2 (.cells #[.slice x d.length v,.int .i64 i] 24) Ns;have d9:d.length<=4:=YD.out.len;refine eE (λu=>w.gb u (Nq b)/\bg u b (g+31)/\M<u.heap.size/\u.heap[A]?=Nq (.cells #[.slice B s.length z,f] 24 (0,0))/\u.heap[A+1]?=Nq (.cells #[p.mn,p.mx,p.bears,p.tall] 28 (0,0))/\u.heap[M]?=Nq (.cells #[.slice x d.length v,.int .i64 i] 24 (0,0))/\aD w.heap.size u.heap.size u (.slice x d.length v) d)
  ⟨((((NN w (Nq b)).andThen r (λj e=>by cases e)).andThen O.1 (λj e=>.inr e)).andThen a (λj e=>by cases e)),O.2.alloc _,by rw[NW];omega,bk a (blk O.1 (by simp;omega) R),bk a (blk O.1 (by simp;omega) Q),by rw[Y];exact NL _ _,(P2.alloc _).mono r.size a.size⟩ (λu hF=>?_)
 obtain⟨f1,f2,f3,f4,N,f6,f7⟩:=hF;have q:=Np (show ∀c,u.gb c Ns->c.cell? A=Nq (.slice B s.length z)/\c.cell? ⟨A,1,Ns⟩=Nq (.int .i64 f)/\c.cell? (A+1:NA)=Nq (.int .i64 p.mn)/\c.cell? ⟨A+1,1,Ns⟩=Nq (.int .i64 p.mx)/\c.cell? ⟨A+1,2,Ns⟩=Nq (.int .i64 p.bears)/\c.cell? ⟨A+1,3,Ns⟩=Nq (.int .i64 p.tall)/\c.cell? M=Nq (.slice x d.length v)/\c.cell? ⟨M,1,Ns⟩=Nq (.int .i64 i) from λc h=>⟨aa (bk h f4) rfl,aa (bk h f4) rfl,aa (bk h N) rfl,aa (bk h N) rfl,aa (bk h N) rfl,aa (bk h N) rfl,aa (bk h f6) rfl,aa (bk h f6) rfl⟩);have D:w.heap.size<=u.heap.size:=f1.size;have⟨F1,F2,F7⟩:=bC f1 f2 f7;have X:Wn ((d++[p]).length=d.length+1):=Np (by simp);clear O P2 P R Q r a Y f1 f2 f3 f4 N f6 f7;refine aI 6 (λc=>c.cell? A=Nq (.slice B s.length z)/\c.cell? ⟨A,1,Ns⟩=Nq (.int .i64 f)/\c.cell? (A+1:NA)=Nq (.int .i64 p.mn)/\c.cell? ⟨A+1,1,Ns⟩=Nq (.int .i64 p.mx)/\c.cell? ⟨A+1,2,Ns⟩=Nq (.int .i64 p.bears)/\c.cell? ⟨A+1,3,Ns⟩=Nq (.int .i64 p.tall)/\c.cell? M=Nq (.slice x d.length v)/\c.cell? ⟨M,1,Ns⟩=Nq (.int .i64 i)) (by kernel_rfl) (by kernel_rfl) (q _ (ai u Ns)) (λhHeld=>?_);simp only[NQ,NU,Oh,OV,Oc,Oj,Ol,Ow,On,Oa];refine tk 0 (h:=tk 1 (h:=tk 2 (h:=tk 3 (h:=?_))));try go_frame
 refine rdc 4 λK hK=>?_;go_simp;go_at_call 38;refine(CF 0 u.heap.size _ d i p u.drew ((F7.kept (ai u Ns)).mono (OE _) (Nv _)).g (by omega)).mono ?_;rintro e w6 ⟨S,rfl,o,k⟩;have y:=Np ((ai u Ns).t o);have W:=o.size;obtain⟨wb,wc,rfl,-,-⟩:=k.cell;rw[X] at k ⊢;have P6:=Np k;refine hK.out _ _ (q _ y) (λhHeld=>?_);clear o k;try go_frame
 refine rdc 5 λK hK=>?_;go_simp;have a:=Nr w6 (.cells #[.slice B s.length z,f,.slice x d.length v,.int .i64 i,.slice wb (d.length+1) wc,.int .i64 i] 24) Ns;refine hK.out _ _ (q _ (y.t a)) (λhHeld=>?_);try go_frame
 refine⟨by kernel_rfl,?_⟩;simp only[Oi,OH];have b0:=Np a;clear hHeld a;go_wp2;go_ret;have a:=b0.out;refine⟨d,i,_,_,w6.heap.size,YD,rfl,⟨(F1.andThen y (λj e=>by cases e)).andThen a (λj e=>by cases e),(F2.kept y).alloc _⟩,NM D W,NL _ _,?_,?_⟩
 ·exact((F7.kept y).alloc _).mono (Nv _) (NM y.size a.size)
 ·exact(P6.alloc _).mono D a.size
def Di(Q:NA)(P pv:Ny)(l:Nu NH)(z:Nu Par)(a n:NH)(b g:NA)(w:Nt)(hL:∃S R,P=.slice S l.length R)(hP:aD Q w.heap.size w pv z)(a6:b<Q)(ht:bg w b g)(hg:g<90000)(h5:z.length<=5)(a8:0<=a)(a7:a<=1000)(D:∀p∈z,0<=p.tall/\p.tall<=100) :Oz Ya 26 #[P,.agg #[pv,a],n,.pointer (Nq b)] w λe y =>∃m B i ab ac Z,POk z a m/\e=.returned (.slice (Nq ⟨Z,0,Ns⟩) 3 3)/\Tn b (g+11) w y/\w.heap.size<=Z/\y.heap[Z]?=Nq (.cells #[P,.slice B m.length i,.slice ab (m.length+1) ac] 29 (0,0)) /\aj w.heap.size y.heap.size y (.slice B m.length i) m/\m.length<=i/\aj w.heap.size y.heap.size y (.slice ab (m.length+1) ac) (m++[n])/\m.length+1<=ac:=by
 have⟨i0,a9,V,U,T⟩:=PM Tp.info3p;obtain⟨S,R,rfl⟩:=hL;obtain⟨yb,yc,rfl,g9,-⟩:=hP.cell;have⟨A,w1,hA,k,f,v⟩:=bI w (.cells #[.slice yb z.length yc,a] 24);have F:bg w1 b g:=by rw[k];exact ht.alloc _
 have c9:=Np ((hP.kept f).mono (Nv _) f.size);have q0:=aa v (o:=0) rfl;have q1:=aa v (o:=1) rfl;have⟨c8,HW,HA,x,c3⟩:=nW F k hA f D;clear hP k hA f v ht F D;go_enter Tp.x26,Tryz.ntmps26;go_upto_region 1 with(fail);rw[<- HA,<- HW];go_upto_region 2 with(go_at_call 34;refine(AJ b g Q _ z a w1 c8 hg c9 a6 h5 a8 a7 c3).mono ?_;rintro e M ⟨m,mv,H,rfl,I,r,h⟩;have N2:=Np I;have I2:=Np r;have PK:=Np H;obtain⟨B,i,rfl,h9,-⟩:=r.cell;have X:m.length<=i:=h _ _ _ rfl;clear I r H h);have Y:m.length<=100:=PK.out.len;have C:w.heap.size<=M.heap.size:=NM x.size N2.1.size;go_wp2_with (first
  | (go_at_call 28;refine(Gx 0 _ _ m M (I2.mono (OE _) (Nv _)) (Nv _) (by omega)).mono ?_;rintro e w3 ⟨kv,rfl,u,q⟩;obtain⟨ka,kc,rfl,-⟩:=gN q;have KO:=Np q;have G3:=Np u;have h8:=u.size;clear u q)
  | (at_builtin;(refine Rv _ rfl _ _ 29 rfl M.heap.size 3 i0 _ 1 8 Tp.und29' a9 V U T rfl (by decide) (.slice ka m.length kc) m.length _ rfl (KO.alloc _) ⟨w3.heap.size,0,Ns⟩ 1 1 [.int .i64 n] rfl rfl (Pt (cs:=#[n]) (t:=3) (fr:=(0,0)) (NL w3 _)) (by simp[PT]) (by unfold Rh;omega) (by omega) (by simp;omega) ?_);intro v4 L c d _;obtain⟨g4,N,rfl⟩:=ownsRow_succ c;have X4:=Np c;have O:=Np (Qy (row:=Ns) (G3.t (Nr _ _ Ns)) d (λj e=>.inl (KO.lt j e).1));have G:=O.out.size;clear c d))
 go_ret;have hx:=X4.out;have W:aj M.heap.size L.heap.size L (.slice (Nq g4) (m.length+1) N) (m++[n]):=by
  have:=aj.own (l:=m++[n]) (by simpa using hx) (by simp;omega);exact this
 have b0:m.length+1<=N:=by
  rcases hx.2 with⟨e,-⟩ | ⟨g,k9,k8,e,-,-,hc,-⟩
  ·cases e
  ·cases e;exact hc
 have s:=Nr L (.cells #[.slice S l.length R,.slice B m.length i,.slice (Nq g4) (m.length+1) N] 29) Ns;refine⟨m,B,i,Nq ⟨g4,0,Ns⟩,N,L.heap.size,PK,rfl,⟨((((NN w (Nq b)).andThen x (λj e=>by cases e)).andThen N2.1 (λj e=>.inr e)).andThen O (λj e=>by cases e)).andThen s (λj e=>by cases e),(N2.2.kept O).alloc _⟩,NM C G,NL _ _,?_,X,?_,b0⟩
 ·exact(((I2.kept O).alloc _)).mono x.size (NM G s.size)
 ·exact(W.alloc _).mono C s.size
def KZ(a b c d e f g h:NH)(w:Nt):(Op.equalIn 10000 28 (.agg #[a,b,c,d]) (.agg #[e,f,g,h])).run Ya w=.ok (decide (a=e/\b=f/\c=g/\d=h)) w:=by
 have u26:Ya.underlying 26=Tryz.prog.underlying 26:=Tp.und 26;have u28:Ya.underlying 28=Tryz.prog.underlying 28:=Tp.und 28;have u3:Ya.underlying 3=Nq (.int .i64):=by rw[Tp.und];exact SI
 have l:Ya.underlying 28=Nq (.struct (Ya.fieldsOf 28)):=by kernel_rfl
 have k:Ya.underlying 26=Nq (.struct (Ya.fieldsOf 26)):=by kernel_rfl
 have j:Ya.stoodInHeld 28=NC:=by kernel_rfl
 have i:Ya.stoodInHeld 26=NC:=by kernel_rfl
 rw[show(10000:NA)=9998+1+1 from rfl,run_equalIn_agg w (9998+1) 28 _ _ l j];simp only[Program.fieldsOf,u28,Tryz.underlying28];go_simp;by_cases q:a=e<;>by_cases p:b=f<;>by_cases o:c=g<;>by_cases n:d=h<;>simp[q,p,o,n]
def Jh(a b c d e f g h:NH)(w:Nt):(binOp .neq 28 (.agg #[a,b,c,d]) (.agg #[e,f,g,h])).run Ya w=.ok (.bool (!decide (a=e/\b=f/\c=g/\d=h))) w:=by
 rw[run_neq_struct,KZ];rfl
def Dl(c:BinOp)(x y:OQ)(a b:NJ Ny)(w:Nt):(eqGuard c 28 x y (.agg a) (.agg b)).run Ya w=.ok () w:=run_eqGuard_agg w c 28 x y a b (by kernel_rfl)
def tj(la ha lb hb:NA)(va vb:Ny)(a b:Nu Par)(j y:NH)(w:Nt)(V:zE la ha w va a j)(U:zE lb hb w vb b y) :Oz Ya 32 #[va,vb] w λe w'=>e=.returned (.bool (decide (j=y/\a=b)))/\w.gb w' Ns:=by
 obtain⟨pa,rfl,V⟩:=V;obtain⟨pb,rfl,U⟩:=U;obtain⟨ba,ca,rfl,l7,R⟩:=V.cell;obtain⟨bb,cb,rfl,l6,h2⟩:=U.cell;obtain⟨X,w1,hX,L,O,v,u,-⟩:=bY w (.cells #[.slice ba a.length ca,j] 24) (.cells #[.slice bb b.length cb,y] 24);have⟨H1,H2,HW,HX,n⟩:=nW R h2 L hX O;have q0:=aa v (o:=0) rfl;have q1:=aa v (o:=1) rfl;have q2:=aa u (o:=0) rfl;have q3:=aa u (o:=1) rfl;clear R h2 V U L hX O v u;by_cases f:j=y;rotate_left
 ·have x:=Np (show decide (j=y/\a=b)=NC from decide_eq_false λh=>f h.1);have l5:(j != y)=NB:=by simp[f]
  clear f;go_enter Tp.x32,Yr;go_upto_region 1 with(fail);rw[<- HX,<- HW];go_wp2;go_ret;exact⟨by rw[x];rfl,n⟩
 subst f;rw[show decide (j=j/\a=b)=decide (a=b) by simp];by_cases d:a.length=b.length
 ·have HL:=Np d;have s:((a.length:NH) != (b.length:NH))=NC:=by rw[d];simp
  clear d;go_enter Tp.x32,Yr;go_upto_region 1 with(fail);rw[<- HX,show(w.alloc (.cells #[.slice ba a.length ca,j] 24)).alloc (.cells #[.slice bb b.length cb,j] 24)=w1 from HW.symm];go_wp2;go_loopw [5] (λiv wr=>∃k:NA,iv=.int .i64 k/\k<=a.length/\(∀i,i<k->a[i]?=b[i]?)/\w1.gb wr Ns) (λiv _=>(a.length - OP iv).toNat)
  case atStart=>exact⟨0,rfl,by omega,λi T=>absurd T (by omega),NN _ _⟩
  case round=>
   obtain⟨k,rfl,hk,M,z⟩:=hrel;have⟨S,HG⟩:=aQ M z;have r0:=z.cl q0;have r2:=z.cl q2;clear M;by_cases r:k<a.length
   ·have l:k<b.length:=by have:=HL.out;omega
    obtain⟨A1,o1,rfl,-,-,-,Q⟩:=H1.out (by intro e;rw[e] at r;simp at r);obtain⟨B1,o2,rfl,-,-,-,P⟩:=H2.out (by intro e;rw[e] at l;simp at l);have⟨p,e1,I,H,G,F⟩:=Q k r;have⟨q,e2,D,C,B,A⟩:=P k l;have c:=n.out.t z;have x1:=c.cl I;have x2:=c.cl H;have x3:=c.cl G;have x4:=c.cl F;have y1:=c.cl D;have y2:=c.cl C;have y3:=c.cl B;have y4:=c.cl A;obtain⟨p1,p2,p3,p4⟩:=p;obtain⟨z1,Z,Y,W⟩:=q;dsimp only at x1 x2 x3 x4 y1 y2 y3 y4;have l8:(k:NH)<(b.length:NH):=by omega
    have l9:(k:NH)<(a.length:NH):=by omega
    have⟨E1,E2⟩:=aQ e1 e2;clear Q P z e1 e2 I H G F D C B A c;have N:=Jh p1 p2 p3 p4 z1 Z Y W;have m3:=Dl .neq (.tmp 31) (.tmp 36) #[p1,p2,p3,p4] #[z1,Z,Y,W];by_cases g:p1=z1/\p2=Z/\p3=Y/\p4=W
    ·rw[decide_eq_true g] at N;have d6:=Np g;clear g;go_upto_region 6 with(fail);go_quiet (fail);go_wp2;go_roundw
     case rel=>
      refine⟨k+1,by simp,by omega,λi T=>?_,HG.t (ax _ _ _)⟩;by_cases e:i=k
      ·obtain⟨rfl,rfl,rfl,rfl⟩:=d6.out;rw[e,E1,E2]
      ·exact S i (by omega)
     case measure=>simp[OP];omega
    ·rw[decide_eq_false g] at N;have x:=Np (show decide (a=b)=NC by
      rw[decide_eq_false_iff_not];intro e;have R:=E1.out;rw[e,E2] at R;exact g (by cases R;exact⟨rfl,rfl,rfl,rfl⟩))
     clear g;go_upto_region 6 with(fail);go_quiet (fail);go_wp2;go_ret;exact⟨by rw[x];rfl,n.t (HG.t (ax _ _ _))⟩
   ·obtain rfl:k=a.length:=by omega
    have x:=Np (show decide (a=b)=NB by
     rw[decide_eq_true_eq];refine RO λi=>?_;by_cases T:i<a.length
     ·exact S i T
     ·rw[OO (by omega),OO (by have:=HL.out;omega)])
    clear z;go_wp2;go_ret;exact⟨by rw[x];rfl,n.t HG⟩
 ·have x:=Np (show decide (a=b)=NC by
   rw[decide_eq_false_iff_not];intro e;exact d (by rw[e]))
  have s:((a.length:NH) != (b.length:NH))=NB:=by simp;omega
  clear d;go_enter Tp.x32,Yr;go_upto_region 1 with(fail);rw[<- HX,show(w.alloc (.cells #[.slice ba a.length ca,j] 24)).alloc (.cells #[.slice bb b.length cb,j] 24)=w1 from HW.symm];go_wp2;go_ret;exact⟨by rw[x];rfl,n⟩
def dP(a:Nu Par):Nu (NH × NH):=a.map λp=>(p.mn,p.mx)
def vm(lo hi:NA)(M:Ny)(a:Nu Par)(i:NH)(w:Nt)(hY:zE lo hi w M a i)(hl:a.length<=1000) :Oz Ya 89 #[M] w λe y=>∃v,e=.returned v/\w.gb y Ns/\aV w.heap.size y.heap.size y v (dP a):=by
 have⟨i0,F,D,C,B⟩:=PM Tp.info26p;obtain⟨pv,rfl,S⟩:=hY;obtain⟨Z,Y,rfl,b9,R⟩:=S.cell;have⟨A,x,T,l,q,r⟩:=bI w (.cells #[.slice Z a.length Y,i] 24);have⟨G,HA,g,HC⟩:=cJ l T q R;have q0:=aa r (o:=0) rfl;clear S R l T q r;go_enter Tp.x89,Tryz.ntmps89;go_upto_region 3 with(fail);rw[<- HA,<- G];go_wp2;go_loopw [3,4] (λov z wr=>∃k:NA,z=.int .i64 k/\k<=a.length/\x.gb wr Ns/\wr.ownsRow x.heap.size 26 2 ov k (eR ((dP a).take k))) (λ_ z _=>(a.length - OP z).toNat)
 case atStart=>exact⟨0,rfl,by omega,NN _ _,by simpa[eR] using PX _ _ _ _⟩
 case round=>
  obtain⟨k,rfl,hk,h,u⟩:=hrel;obtain⟨oa,om,oc,rfl⟩:=cd u;have⟨X,I⟩:=aQ h u;have c3:=h.size;have a6:=h.cl q0;by_cases d:k<a.length
  ·obtain⟨YB,yo,rfl,-,-,-,U⟩:=HC.out (by intro e;rw[e] at d;simp at d);obtain⟨p,P,O,N,-,-⟩:=U k d;have f:=g.out.t h;have x1:=f.cl O;have x2:=f.cl N;have HS:=Np (show eR ((dP a).take (k+1))=eR ((dP a).take k)++[.int .i64 p.mn,.int .i64 p.mx] by
    have:(dP a)[k]?=Nq (p.mn,p.mx):=by unfold dP;rw[Pa,P];rfl
    rw[OR,this];exact sH _ _)
   have Q:(k:NH)<(a.length:NH):=by omega
   clear U P O N f h u;go_wp2_with (at_builtin;(refine Rv _ rfl _ _ 48 rfl x.heap.size 26 i0 _ 2 16 Tp.und48 F D C B rfl (by decide) (.slice oa om oc) k _ rfl (I.alloc _) ⟨wr.heap.size,0,Ns⟩ 1 1 [.int .i64 p.mn,.int .i64 p.mx] rfl rfl (Pt (cs:=#[p.mn,p.mx]) (t:=26) (fr:=(0,0)) (NL wr _)) (by simp[PT]) (by unfold Rh;omega) (by omega) (by simp;omega) ?_);intro v' w7 b c _;obtain⟨g',W,rfl⟩:=ownsRow_succ b;have H:=Np b;have L:=Np c;clear b c);go_roundw
   case rel=>
    refine⟨k+1,by simp,by omega,(X.t (Nr _ _ Ns)).andThen L (λj e=>.inl (I.lt j e).1),?_⟩;rw[HS];exact H
   case measure=>simp[OP];omega
  ·obtain rfl:k=a.length:=by omega
   have n:(dP a).length=a.length:=by simp[dP]
   have s:=Np n;clear h u n;go_wp2;go_ret;have V:=I.out;rw[show(dP a).take a.length=dP a from UP (by rw[s];exact Nv _)] at V;exact⟨_,rfl,g.t X,(aV.own V (by rw[s];omega)).mono g.size (Nv _)⟩
def vx:∀(t:Nu NH),(∀x∈t,0<=x/\x<=1000)->0<=tot t/\tot t<=1000*t.length
 | [],_=>by simp[tot]
 | a::t,h=>by
  have d:=vx t λx b=>h x (by simp[b]);have c:=h a (by simp);simp only[tot,NQ];omega
def DD(la ha lb hb:NA)(lv bv:Ny)(l:Nu NH)(bs:Nu (NH × NH))(d gx:NA->NH)(p:NA)(w:Nt)(hI:aS la ha w lv l)(hB:aV lb hb w bv bs)(hg:∀x∈l,0<=x/\bs[x.toNat]?=Nq (d x.toNat,gx x.toNat))(O:∀i,0<=d i/\d i<=1000)(N:∀i,0<=gx i/\gx i<=1000)(hl:l.length<=1000)(hp:p<l.length) :Oz Ya 105 #[lv,bv,p] w λe w'=>e=.returned (.agg #[(loadAt d l p),(loadAt gx l p)])/\w.gb w' Ns:=by
 obtain⟨b1,c1,rfl,-,h1⟩:=hI.cell;obtain⟨b2,c2,rfl,m9,h2⟩:=hB.cell;obtain⟨A,w1,hA,n,R,T,S,-⟩:=bY w (.cells #[.int .i64 0,.int .i64 0] 26) (.cells #[.int .i64 0,.int .i64 0] 26);have⟨HW,HA,b9,c8,c3,H1,H2,b8⟩:=GI n hA R T S h1 h2 hg;have⟨X,W⟩:=aQ O N;have m5:IntKind.i64.wrap ((p:NH)+1)=(p:NH)+1:=Ov _ (by omega);clear hI hB h1 h2 n hA R T S hg O N;obtain⟨b,s⟩:∃b,b=l.drop (p+1):=⟨_,rfl⟩;have F:=Np s;have M:b.length=l.length - (p+1):=by rw[s];simp
 have n6:=Np M;have e9:b.length+(p+1)<=l.length:=by omega
 have e8:l.length<=b.length+(p+1):=by omega
 clear s M;go_enter Tp.x105,Tryz.ntmps105;go_upto_region 3 with(fail);rw[<- HA,<- HW];go_wp2;go_loopw [8] (λiv wr=>∃k:NA,iv=.int .i64 ((p:NH)+1+k)/\k<=b.length/\w.gb wr Ns/\wr.heap[A]?=Nq (.cells #[.int .i64 0,.int .i64 0] 26 (0,0))/\wr.heap[A+1]?=Nq (.cells #[.int .i64 (tot ((b.take k).map λx=>d x.toNat)),.int .i64 (tot ((b.take k).map λx=>gx x.toNat))] 26 (0,0))) (λiv _=>(l.length - OP iv).toNat)
 case atStart=>exact⟨0,by simp,by omega,b9,c8,by simpa[tot] using c3.out⟩
 case round=>
  obtain⟨k,rfl,hk,G,c,a⟩:=hrel;have⟨HG,Y,f⟩:=bC G c a;by_cases a9:k<b.length
  ·obtain⟨x,Z⟩:∃x,b[k]?=Nq x:=⟨_,ND a9⟩;have h:l[p+1+k]?=Nq x:=by rw[<- Z,F,RZ]
   have⟨m3,g⟩:=b8.out x (Od h);obtain⟨m,rfl⟩:∃m:NA,x=m:=⟨x.toNat,by omega⟩;simp only[Int.toNat_natCast] at g;have r:=(NT.1 g).1;obtain⟨B,o,rfl,-,-,-,h4⟩:=H1.out (by intro e;rw[e] at hp;simp at hp);have d0:=G.cl (h4 (p+1+k) (by omega));rw[h] at d0;simp only[NK] at d0;obtain⟨C,o2,rfl,-,-,-,h5⟩:=H2.out (by intro e;rw[e] at r;simp at r);have⟨q,hq,I,H⟩:=h5 m r;rw[g] at hq;cases hq;have y1:=G.cl I;have y2:=G.cl H;have Q:=vx ((b.take k).map λx=>d x.toNat) (by simp only[Qp];rintro z ⟨y,-,rfl⟩;exact X _);have P:=vx ((b.take k).map λx=>gx x.toNat) (by simp only[Qp];rintro z ⟨y,-,rfl⟩;exact W _);simp only[Ql,Qt] at Q P;have a8:=X.out m;have a7:=W.out m;have D:=Np (show tot ((b.take (k+1)).map λx=>d x.toNat)=tot ((b.take k).map λx=>d x.toNat)+d m by rw[OR,Z];simp[xD]);have u:=Np (show tot ((b.take (k+1)).map λx=>gx x.toNat)=tot ((b.take k).map λx=>gx x.toNat)+gx m by rw[OR,Z];simp[xD]);generalize tot ((b.take k).map λx=>d x.toNat)=T1 at a f Q D;generalize tot ((b.take k).map λx=>gx x.toNat)=T2 at a f P u;generalize d m=m1 at y1 a8 D;generalize gx m=m2 at y2 a7 u;have n:IntKind.i64.wrap (T1+m1)=T1+m1:=Ov _ (by omega);have m4:IntKind.i64.wrap (T2+m2)=T2+m2:=Ov _ (by omega);have b0:(p:NH)+1+(k:NH)<(l.length:NH):=by omega
   have m8:(0:NH)<=(p:NH)+1+(k:NH):=by omega
   have m7:((p:NH)+1+(k:NH)).toNat=p+1+k:=by omega
   have m6:(m:NH)<(bs.length:NH):=by omega
   have z0:=aa a (o:=0) rfl;have z1:=aa a (o:=1) rfl;have t0:=aA a (o:=0);have t1:=aA a (o:=1);clear G c a h4 h5 Z h g I H;go_upto_region 5 with(fail);go_still_tail 23,(by kernel_rfl);change Vb _ _ _ _ _ wr.drew;have k8:wr.drew.cell? (A+1:NA)=_:=z0;have k7:wr.drew.cell? ⟨A+1,1,Ns⟩=_:=z1;have l6:wr.drew.frozen? ⟨A+1,0,Ns⟩=NC:=t0;have l5:wr.drew.frozen? ⟨A+1,1,Ns⟩=NC:=t1;go_wp2;go_roundw
   case rel=>
    have L:=((an wr.drew (A+1) 0 (.int .i64 (T1+m1))).t (an _ (A+1) 1 (.int .i64 (T2+m2))));refine⟨k+1,by simp;omega,by omega,(HG.t (ai wr Ns)).andThen L (by rintro j e;cases e;exact .inl (by have:=HA.out;omega)),bk L (show wr.drew.heap[A]?=_ from Y),?_⟩;rw[D,u];exact ar (o:=1) (v:=.int .i64 (T2+m2)) (ar (o:=0) (v:=.int .i64 (T1+m1)) (show wr.drew.heap[A+1]?=_ from f))
   case measure=>simp[OP];omega
  ·obtain rfl:k=b.length:=by omega
   rw[Ps] at a f;have V:=Np (show tot (b.map λx=>d x.toNat)=loadAt d l p by rw[F];rfl);have U:=Np (show tot (b.map λx=>gx x.toNat)=loadAt gx l p by rw[F];rfl);generalize tot (b.map λx=>d x.toNat)=T1 at a f V;generalize tot (b.map λx=>gx x.toNat)=T2 at a f U;have b0:¬ (p:NH)+1+(b.length:NH)<(l.length:NH):=by omega
   have z0:=aa a (o:=0) rfl;have z1:=aa a (o:=1) rfl;have y0:=aa c (o:=0) rfl;have y1:=aa c (o:=1) rfl;have t0:=aA c (o:=0);have t1:=aA c (o:=1);clear G c a;go_wp2;have hz:=ar (o:=1) (v:=.int .i64 T2) (ar (o:=0) (v:=.int .i64 T1) Y);have b6:=HG.out.andThen (row':=Nq A) ((an wr A 0 (.int .i64 T1)).t (an _ A 1 (.int .i64 T2))) (by rintro j e;cases e;exact .inl (by have:=HA.out;omega));exact Qi (v:=.agg #[T1,T2]) (by simp[Qo,Tryz.results105,go_sem,OA,hz]) rfl ⟨by rw[V,U],b6⟩
def fP(x a b:NH)(w:Nt)(f:a<=x)(d:x<=b) :Oz Ya 106 #[x,a,b] w λe c=>e=.returned (.bool NB)/\w=c:=by
 go_enter Tp.x106,XJ;go_wp2;go_ret;exact⟨rfl,rfl⟩
def fQ(x a b:NH)(w:Nt)(c:¬ (a<=x/\x<=b)) :Oz Ya 106 #[x,a,b] w λe d=>e=.returned (.bool NC)/\w=d:=by
 by_cases f:a<=x
 ·have g:¬ x<=b:=λh=>c ⟨f,h⟩;clear c;go_enter Tp.x106,XJ;go_wp2;go_ret;exact⟨rfl,rfl⟩
 ·clear c;go_enter Tp.x106,XJ;go_wp2;go_ret;exact⟨rfl,rfl⟩
def tF(a b c d:NH)(w:Nt)(h:¬ (1<=a/\a<=12)) :Oz Ya 111 #[.agg #[a,b,c,d]] w λe f=>e=.returned (.int .i64 1)/\w.gb f Ns:=by
 have g:=Np h;clear h;go_enter Tp.x111,Un;go_wp2_with (first
  | (go_at_call 106;refine(fP _ _ _ _ (by have:=g.out;omega) (by have:=g.out;omega)).mono ?_;rintro e f ⟨rfl,rfl⟩)
  | (go_at_call 106;(refine(fQ _ _ _ _ (by have:=g.out;omega)).mono ?_);rintro e f ⟨rfl,rfl⟩))
 go_ret;exact⟨rfl,Nr _ _ _⟩
def tE(a b c d:NH)(w:Nt)(i:1<=a/\a<=12)(h:¬ (1<=b/\b<=12)) :Oz Ya 111 #[.agg #[a,b,c,d]] w λe f=>e=.returned (.int .i64 1)/\w.gb f Ns:=by
 have g:=Np (NY i h);clear i h;go_enter Tp.x111,Un;go_wp2_with (first
  | (go_at_call 106;refine(fP _ _ _ _ (by have:=g.out;omega) (by have:=g.out;omega)).mono ?_;rintro e f ⟨rfl,rfl⟩)
  | (go_at_call 106;(refine(fQ _ _ _ _ (by have:=g.out;omega)).mono ?_);rintro e f ⟨rfl,rfl⟩))
 go_ret;exact⟨rfl,Nr _ _ _⟩
def tD(a b c d:NH)(w:Nt)(i:1<=a/\a<=12)(h:1<=b/\b<=12)(j:b<a) :Oz Ya 111 #[.agg #[a,b,c,d]] w λe f=>e=.returned (.int .i64 5)/\w.gb f Ns:=by
 have g:=Np (NY i (NY h j));clear i h;go_enter Tp.x111,Un;go_wp2_with (first
  | (go_at_call 106;refine(fP _ _ _ _ (by have:=g.out;omega) (by have:=g.out;omega)).mono ?_;rintro e f ⟨rfl,rfl⟩)
  | (go_at_call 106;(refine(fQ _ _ _ _ (by have:=g.out;omega)).mono ?_);rintro e f ⟨rfl,rfl⟩))
 go_ret;exact⟨rfl,Nr _ _ _⟩
def tC(a b c d:NH)(w:Nt)(j:1<=a/\a<=12)(i:1<=b/\b<=12)(k:¬ b<a)(h:¬ (0<=c/\c<=30)) :Oz Ya 111 #[.agg #[a,b,c,d]] w λe f=>e=.returned (.int .i64 1)/\w.gb f Ns:=by
 have g:=Np (NY j (NY i (NY k h)));clear j i h;go_enter Tp.x111,Un;go_wp2_with (first
  | (go_at_call 106;refine(fP _ _ _ _ (by have:=g.out;omega) (by have:=g.out;omega)).mono ?_;rintro e f ⟨rfl,rfl⟩)
  | (go_at_call 106;(refine(fQ _ _ _ _ (by have:=g.out;omega)).mono ?_);rintro e f ⟨rfl,rfl⟩))
 go_ret;exact⟨rfl,Nr _ _ _⟩
def tB(a b c d:NH)(w:Nt)(k:1<=a/\a<=12)(j:1<=b/\b<=12)(l:¬ b<a)(i:0<=c/\c<=30)(h:¬ (1<=d/\d<=3)) :Oz Ya 111 #[.agg #[a,b,c,d]] w λe f=>e=.returned (.int .i64 1)/\w.gb f Ns:=by
 have g:=Np (NY k (NY j (NY l (NY i h))));clear k j i h;go_enter Tp.x111,Un;go_wp2_with (first
  | (go_at_call 106;refine(fP _ _ _ _ (by have:=g.out;omega) (by have:=g.out;omega)).mono ?_;rintro e f ⟨rfl,rfl⟩)
  | (go_at_call 106;(refine(fQ _ _ _ _ (by have:=g.out;omega)).mono ?_);rintro e f ⟨rfl,rfl⟩))
 go_ret;exact⟨rfl,Nr _ _ _⟩
def tA(a b c d:NH)(w:Nt)(k:1<=a/\a<=12)(j:1<=b/\b<=12)(l:¬ b<a)(i:0<=c/\c<=30)(h:1<=d/\d<=3) :Oz Ya 111 #[.agg #[a,b,c,d]] w λe f=>e=.returned (.int .i64 0)/\w.gb f Ns:=by
 have g:=Np (NY k (NY j (NY l (NY i h))));clear k j i h;go_enter Tp.x111,Un;go_wp2_with (first
  | (go_at_call 106;refine(fP _ _ _ _ (by have:=g.out;omega) (by have:=g.out;omega)).mono ?_;rintro e f ⟨rfl,rfl⟩)
  | (go_at_call 106;(refine(fQ _ _ _ _ (by have:=g.out;omega)).mono ?_);rintro e f ⟨rfl,rfl⟩))
 go_ret;exact⟨rfl,Nr _ _ _⟩
def jy(p:Par)(w:Nt):Oz Ya 111 #[.agg #[p.mn,p.mx,p.bears,p.tall]] w λe g=>e=.returned (.int .i64 (kE p))/\w.gb g Ns:=by
 unfold kE;by_cases a:1<=p.mn/\p.mn<=12
 ·by_cases b:1<=p.mx/\p.mx<=12
  ·by_cases c:p.mx<p.mn
   ·rw[if_pos a,if_pos b,if_pos c];exact tD _ _ _ _ w a b c
   ·by_cases d:0<=p.bears/\p.bears<=30
    ·by_cases f:1<=p.tall/\p.tall<=3
     ·rw[if_pos a,if_pos b,if_neg c,if_pos d,if_pos f];exact tA _ _ _ _ w a b c d f
     ·rw[if_pos a,if_pos b,if_neg c,if_pos d,if_neg f];exact tB _ _ _ _ w a b c d f
    ·rw[if_pos a,if_pos b,if_neg c,if_neg d];exact tC _ _ _ _ w a b c d
  ·rw[if_pos a,if_neg b];exact tE _ _ _ _ w a b
 ·rw[if_neg a];exact tF _ _ _ _ w a
def sw(lo j:NA)(T:Ny)(b:Nu Par)(a:NH)(w:Nt)(hY:zE lo j w T b a)(b8:j<=w.heap.size) :Oz Ya 53 #[T] w λe N=>e=.returned (.int .i64 (dS b a))/\w.gb N Ns:=by
 obtain⟨qv,rfl,I⟩:=hY;obtain⟨Y,X,rfl,b7,-⟩:=I.cell;by_cases L:5<b.length
 ·have f:=Np (show dS b a=6 by unfold dS;rw[if_pos L]);have Q:(5:NH)<b.length:=by omega
  clear I;go_enter Tp.x53,ZT;go_wp2;go_ret;exact⟨by rw[f];rfl,Nr _ _ _⟩
 ·have⟨A,w1,W,v,l,n⟩:=bI w (.cells #[.slice Y b.length X,a] 24);have S:=Np (I.kept l);have⟨R,HA,s⟩:=bC v W l;have q0:=aa n (o:=0) rfl;have q1:=aa n (o:=1) rfl;have Q:¬ (5:NH)<b.length:=by omega
  clear I v W l n;go_enter Tp.x53,ZT;go_upto_region 1 with(fail);rw[<- HA,<- R];go_wp2;go_loopw [3] (λO wr=>∃k:NA,O=.int .i64 k/\k<=b.length/\(∀i p,i<k->b[i]?=Nq p->kE p=0)/\w1.gb wr Ns) (λO _=>(b.length - OP O).toNat)
  case atStart=>exact⟨0,rfl,by omega,λi p j=>absurd j (by omega),NN _ _⟩
  case round=>
   obtain⟨k,rfl,hk,x,D⟩:=hrel;have⟨d,M⟩:=aQ x D;have F:=S.out.kept D;have a9:=D.cl q0;have a7:=D.cl q1;clear x D;by_cases B:k<b.length
   ·obtain⟨b2,c2,he,-,V⟩:=F.cell;cases he;obtain⟨YB,yo,rfl,c9,c8,c3,C⟩:=V (by intro e;rw[e] at B;simp at B);have⟨p,U,p0,p1,p2,p3⟩:=C k (by omega);have G:=Np U;clear V C U F;by_cases H:kE p=0
    ·go_wp2_with (go_at_call 111;refine(jy p _).mono ?_;rintro e Z ⟨rfl,c⟩;rw[H];have r:=Np c;clear c);go_roundw
     case rel=>
      refine⟨k+1,by simp,by omega,λi q j P=>?_,M.t r⟩;by_cases e:i=k
      ·subst e;rw[G] at P;cases P;exact H
      ·exact d i q (by omega) P
     case measure=>simp[OP];omega
    ·have f:=Np (show dS b a=kE p by
      unfold dS;rw[if_neg L,qA _ b k p G (by simp[H]) (λi y j h=>by simp[d.out i y j h])])
     obtain⟨z,g⟩:∃z,kE p=z:=⟨_,rfl⟩;rw[g] at H f;have HZ:=Np g;clear g;go_wp2_with (go_at_call 111;refine(jy p _).mono ?_;rintro e Z ⟨rfl,c⟩;rw[HZ];have r:=Np c;clear c);go_ret;exact⟨by rw[f];rfl,(s.t M).t r⟩
   ·obtain rfl:k=b.length:=by omega
    by_cases u:1<=a/\a<=12
    ·have f:=Np (show dS b a=0 by
      unfold dS;rw[if_neg L,lS _ b (λi y h=>by simp[d.out i y (NT.1 h).1 h])];exact if_pos u)
     go_wp2_with (go_at_call 106;refine(fP _ _ _ _ u.1 u.2).mono ?_;rintro e N ⟨rfl,rfl⟩);go_ret;exact⟨by rw[f];rfl,s.t M⟩
    ·have f:=Np (show dS b a=1 by
      unfold dS;rw[if_neg L,lS _ b (λi y h=>by simp[d.out i y (NT.1 h).1 h])];exact if_neg u)
     have HL:=Np u;clear u;go_wp2_with (go_at_call 106;refine(fQ _ _ _ _ HL).mono ?_;rintro e N ⟨rfl,rfl⟩);go_ret;exact⟨by rw[f];rfl,s.t M⟩
def yT(t A:NA)(v:Ny)(l:Nu NH)(x:NH)(w:Nt)(n:aS t A w v l) :Oz Ya 107 #[v,x] w λe s=>e=.returned (.bool (decide (x∈l)))/\w=s:=by
 obtain⟨b,c,rfl,u,j⟩:=n.cell;have D:=Np j;clear j n;go_enter Tp.x107,Tryz.ntmps107;go_wp2;go_loopw [5] (λd wr=>∃k:NA,d=.int .i64 k/\k<=l.length/\x∉l.take k/\wr=w) (λd _=>(l.length - OP d).toNat)
 case atStart=>exact⟨0,rfl,by omega,by simp,rfl⟩
 case round=>
  obtain⟨k,rfl,F,i,rfl⟩:=hrel;have g:=Np i;clear i;by_cases a:k<l.length
  ·obtain⟨B,o,rfl,-,-,-,p⟩:=D.out (by intro e;rw[e] at a;simp at a);have q:=p k a;obtain⟨y,f⟩:∃y,l[k]?=Nq y:=⟨_,ND a⟩;rw[f] at q;simp only[NK] at q;have z:(k:NH)<(l.length:NH):=by omega
   have r:=Np f;clear p f;by_cases e:y=x
   ·subst e;have h:=Np (show decide (y∈l)=NB from decide_eq_true (Od r));go_wp2;go_ret;exact⟨by rw[h];rfl,by first | rfl | trivial⟩
   ·have G:(y == x)=NC:=by rw[beq_eq_false_iff_ne];exact e
    have C:=Np e;clear e;go_wp2;go_roundw
    case rel=>exact⟨k+1,by simp,by omega,by rw[OR,r];simp[g.out,Ne.symm C.out],by first | rfl | trivial⟩
    case measure=>simp[OP];omega
  ·obtain rfl:k=l.length:=by omega
   rw[Ps] at g;have h:=Np (show decide (x∈l)=NC from decide_eq_false g);go_wp2;go_ret;exact⟨by rw[h];rfl,by first | rfl | trivial⟩
def qL(a:Nu Par)(b:∀p∈a,0<=p.tall/\p.tall<=1000):∀(l:Nu NH) (k:NA),k<=l.length->0<=aN a (l.take k)/\aN a (l.take k)<=1000*k
 | l,0,_=>by simp[aN]
 | l,k+1,e=>by
  have d:=qL a b l k (by omega);rw[jD a l k _ (ND (show k<l.length by omega))];have f:0<=dq a l[k]/\dq a l[k]<=1000:=by
   unfold dq;split
   ·rename_i p c
    exact b p (Od c)
   ·omega
  omega
def tQ(N R:NA)(M qv:Ny)(a:Nu Par)(j:NH)(l:Nu NH)(w:Nt)(C:bH N R w M a)(D:aS N R w qv l)(O:∀x∈l,0<=x/\x<a.length)(P:∀p∈a,0<=p.tall/\p.tall<=1000)(hl:l.length<=1000) :Oz Ya 108 #[.agg #[M,j],qv] w λe w'=>e=.returned (.int .i64 (aN a l))/\w.gb w' Ns:=by
 obtain⟨Z,Y,rfl,b6,-⟩:=C.cell;obtain⟨base,d5,rfl,c3,-⟩:=D.cell;have⟨A,w1,U,n,f,s⟩:=bI w (.cells #[.slice Z a.length Y,j] 24);have H:=Np (C.kept f);have I:=Np (D.kept f);have⟨F,HA,L,HX⟩:=cJ n U f O;have u:=Np (qL a P l);have q0:=aa s (o:=0) rfl;clear C D n U f s O P;go_enter Tp.x108,Tryz.ntmps108;go_upto_region 3 with(fail);rw[<- HA,<- F];go_wp2;go_loopw [5,6] (λtv v wr=>∃k:NA,v=.int .i64 k/\k<=l.length/\tv=.int .i64 (aN a (l.take k))/\w1.gb wr Ns) (λ_ v _=>(l.length - OP v).toNat)
 case atStart=>exact⟨0,rfl,by omega,by simp[aN],NN _ _⟩
 case round=>
  obtain⟨k,rfl,hk,rfl,i⟩:=hrel;have X:=Np i;by_cases b:k<l.length
  ·obtain⟨b1,c1,z,-,S⟩:=(I.kept i).cell;cases z;obtain⟨B,o,rfl,-,-,-,V⟩:=S (by intro e;rw[e] at b;simp at b);have W:=V k b;obtain⟨x,d⟩:∃x,l[k]?=Nq x:=⟨_,ND b⟩;have⟨b7,h⟩:=HX.out x (Od d);rw[d] at W;simp only[NK] at W;have c:=jD a l k x d;have y:=u.out k hk;obtain⟨m,rfl⟩:∃m:NA,x=m:=⟨x.toNat,by omega⟩;obtain⟨b2,c2,z,-,q⟩:=(H.kept i).cell;cases z;obtain⟨YB,yo,rfl,-,-,-,r⟩:=q (by intro e;rw[e] at h;simp at h;omega);have⟨p,Q,p0,p1,p2,p3⟩:=r m (by omega);rw[show dq a m=p.tall by unfold dq;simp[Q]] at c;have g:=u.out (k+1) b;rw[c] at g;have a9:=i.cl q0;have b9:(m:NH)<(a.length:NH):=h;have c8:(k:NH)<(l.length:NH):=by omega
   generalize aN a (l.take k)=T at y c g ⊢;have b8:IntKind.i64.wrap (T+p.tall)=T+p.tall:=Ov _ (by omega);have G:=Np c;clear i S V q r Q d c;go_upto_region 5 with(fail);go_quiet (fail);go_wp2;go_roundw
   case rel=>exact⟨k+1,by simp,by omega,by rw[G],X.t (ax _ _ Ns)⟩
   case measure=>simp[OP];omega
  ·obtain rfl:k=l.length:=by omega
   rw[Ps];clear i;go_wp2;go_ret;exact⟨rfl,L.t X⟩
def lD(pv qv:Ny)(d:Nu Par)(a:NH)(l:Nu NH)(w:Nt)(hP:bH 0 w.heap.size w pv d)(hI:aS 0 w.heap.size w qv l)(X:l.length<=1000)(G:∀b n c,qv=.slice b n c->n<=c) :Oz Ya 50 #[.agg #[pv,a],qv] w λe g=>e=.returned (.int .i64 (dN d a l))/\w.gb g Ns:=by
 obtain⟨yb,yc,rfl,l6,-⟩:=hP.cell;obtain⟨base,P,rfl,l9,-⟩:=hI.cell;have m8:=G _ _ _ rfl;clear G;have⟨A,V,hA,W,q,O⟩:=bI w (.cells #[.slice yb d.length yc,a] 24);have R:=Np ((hP.kept q).mono (Nv _) q.size);have b6:=Np ((hI.kept q).mono (Nv _) q.size);have⟨a9,HA,F⟩:=bC W hA q;have q0:=aa O (o:=0) rfl;have q1:=aa O (o:=1) rfl;clear hP hI W hA q O;by_cases H:dS d a=0;rotate_left
 ·have s:=Np (show dN d a l=dS d a from if_neg H);obtain⟨c,N⟩:∃c,c=dS d a:=⟨_,rfl⟩;rw[<- N] at H;have b8:=Np N;have m9:(c == 0)=NC:=by rw[beq_eq_false_iff_ne];exact H
  clear N H;go_enter Tp.x50,ZU;go_upto_region 1 with(fail);rw[<- HA,<- a9];go_wp2_with (go_at_call 53;refine(sw 0 _ _ d a V ⟨_,rfl,R⟩ (Nv _)).mono ?_;rintro e w2 ⟨rfl,r⟩;rw[<- b8];have S:=Np r;clear r);go_ret;exact⟨by rw[s,<- b8];rfl,F.t S⟩
 have s:=Np (show dN d a l=lY d a l from if_pos H);have e7:=Np (zJ H);have HC:=Np H;clear H;go_enter Tp.x50,ZU;go_upto_region 1 with(fail);rw[<- HA,<- a9];go_upto_region 4 with(go_at_call 53;refine(sw 0 _ _ d a V ⟨_,rfl,R⟩ (Nv _)).mono ?_;rintro e w2 ⟨rfl,r⟩;rw[HC];have S:=Np r;clear r);go_wp2;go_loopw [6] (λiv wr=>∃k:NA,iv=.int .i64 k/\k<=l.length/\(∀j,j<k->dT d l j=0)/\V.gb wr Ns) (λiv _=>(l.length - OP iv).toNat)
 case atStart=>exact⟨0,rfl,by omega,λj hj=>by omega,S⟩
 case round=>
  obtain⟨k,rfl,hk,a6,I⟩:=hrel;have⟨HG,v⟩:=aQ I a6;have z:=I.cl q0;have y:=I.cl q1;clear a6;by_cases i:k<l.length
  ·have D:=Np (b6.kept I);obtain⟨b1,c1,he,-,Y⟩:=D.out.cell;cases he;obtain⟨B,o,rfl,-,-,-,h4⟩:=Y (by intro e;rw[e] at i;simp at i);have d0:=h4 k i;obtain⟨x,L⟩:∃x,l[k]?=Nq x:=⟨_,ND i⟩;rw[L] at d0;simp only[NK] at d0;have m3:(k:NH)<(l.length:NH):=by omega
   have l7:IntKind.i64.wrap ((d.length:NH) - 1)=(d.length:NH) - 1:=Ov _ (by omega);have m5:(0:NH)<=(k:NH):=by omega
   have m4:(k:NH)<=(P:NH):=by omega
   have a8:=Np L;clear I h4 Y L;go_upto_region 7 with(fail);go_still_tail 8,(by kernel_rfl);change Vb _ _ _ _ _ wr.drew;by_cases C:0<=x/\x<d.length;rotate_left
   ·have HE:=Np (show lY d a l=3 from oq v i (by unfold dT;rw[a8];simp only[if_neg C]) (by decide));have e9:=Np (show ¬ (0<=x/\x<=(d.length:NH) - 1) from λh=>C ⟨h.1,by omega⟩);clear C;go_wp2_with (go_at_call 106;refine(fQ _ _ _ _ e9).mono ?_;rintro e g ⟨rfl,rfl⟩);go_ret;exact⟨by rw[s,HE];rfl,(F.t HG).t (ai _ _)⟩
   obtain⟨d6,d5⟩:=C;have Z:dT d l k=if x∈l.take k then 4 else 0:=by unfold dT;rw[a8];simp only[if_pos (NY d6 d5)]
   have b9:=Np Z;clear Z;have e4:wr.drew.cell? ⟨B,o+k,Ns⟩=Nq (.int .i64 x):=d0;go_upto_region 9 with(go_at_call 106;refine(fP _ _ _ _ (by omega) (by omega)).mono ?_;rintro e g ⟨rfl,rfl⟩);refine eE (λu=>V.gb u Ns/\u.cell? ⟨B,o+k,Ns⟩=Nq (.int .i64 x)/\aS 0 V.heap.size u (.slice (Nq ⟨B,o,Ns⟩) l.length P) l) ⟨HG.t (ai _ _),d0,D.kept (ai _ Ns)⟩ (λu hF=>?_);obtain⟨gu,du,iu⟩:=hF;have b7:=Np gu;have b0:=Np ((iu.take k hk P).kept (ai _ Ns));clear d0 e4 gu iu z y;go_still_tail 7,(by kernel_rfl);change Vb _ _ _ _ _ u.drew;by_cases f:x∈l.take k
   ·have HE:=Np (show lY d a l=4 from oq v i (by rw[b9,if_pos f]) (by decide));have U:=Np (decide_eq_true f);clear f;go_wp2_with (go_at_call 107;refine(yT 0 _ _ (l.take k) x _ b0).mono ?_;rintro e g ⟨rfl,rfl⟩;rw[U]);go_ret;exact⟨by rw[s,HE];rfl,(F.t b7).t (ai _ _)⟩
   ·have U:=Np (decide_eq_false f);have g7:=Np (show dT d l k=0 by rw[b9,if_neg f]);clear f;go_wp2_with (go_at_call 107;refine(yT 0 _ _ (l.take k) x _ b0).mono ?_;rintro e g ⟨rfl,rfl⟩;rw[U]);go_roundw
    case rel=>exact⟨k+1,by simp,by omega,λj hj=>by
     by_cases e:j=k
     ·rw[e];exact g7
     ·exact v j (by omega),b7.t (ai _ _)⟩
    case measure=>simp[OP];omega
  ·obtain rfl:k=l.length:=by omega
   have HX:=Np (show ∀x∈l,0<=x/\x<d.length by have:=mY v hk;rwa [Ps] at this);have HZ:=Np (show dN d a l=if aN d l<=a then 0 else 10 from s.t (wP v));have e6:=Np (R.kept I);have D:=Np (b6.kept I);have HT:=Np (show ∀p∈d,0<=p.tall/\p.tall<=1000 from λp hp=>by have:=e7.out.each p hp;omega);clear I;go_upto_region 11 with(fail);have e8:=Np (show ∀g,wr.drew.gb g Ns->g.cell? A=Nq (.slice yb d.length yc)/\g.cell? ⟨A,1,Ns⟩=Nq (.int .i64 a) from λg h=>⟨((ai wr Ns).t h).cl z,((ai wr Ns).t h).cl y⟩);refine aI 5 (λg=>g.cell? A=Nq (.slice yb d.length yc)/\g.cell? ⟨A,1,Ns⟩=Nq (.int .i64 a)) (by kernel_rfl) (by kernel_rfl) ⟨z,y⟩ (λhHeld=>?_);simp only[NQ,NU,Oh,OV,Oc,Oj,Ol,Ow,On,Oa];refine tk 0 (h:=tk 1 (h:=tk 3 (h:=tk 4 (h:=?_))));try go_frame
   refine rdc 2 λK hK=>?_;go_simp;go_at_call 108;refine(tQ 0 _ _ _ d a l _ (e6.kept (ai _ Ns)) (D.kept (ai _ Ns)) HX HT X).mono ?_;rintro e w6 ⟨rfl,M⟩;have G6:=Np ((F.t HG).t ((ai wr Ns).t M));refine hK.out _ _ (e8 _ M) (λhHeld=>?_);clear M;try go_frame
   refine⟨by kernel_rfl,?_⟩;simp only[Oi,OH];generalize aN d l=T at HZ ⊢;clear hHeld z y;by_cases hT:T<=a
   ·have d7:¬ a<T:=by omega
    have Q:=Np (HZ.t (if_pos hT));go_wp2;go_ret;exact⟨by rw[Q];rfl,G6⟩
   ·have d7:a<T:=by omega
    have Q:=Np (HZ.t (if_neg hT));go_wp2;go_ret;exact⟨by rw[Q];rfl,G6⟩
def vU{d:Nu Par}{l:Nu NH}(h:∀j,j<l.length->dT d l j=0):l.Nodup:=by
 rw[List.nodup_iff_pairwise_ne,Rq];intro i j f c b e;have a:=h j c;unfold dT at a;rw[ND c] at a;simp only at a;split at a
 ·rw[if_pos (by
   rw[<- e];refine TN.2 ⟨i,?_⟩;rw[PI b,ND f])] at a
  cases a
 ·cases a
def vS{b:Nu Par}{a:NH}{l:Nu NH}(h:dN b a l=0):YOk b a/\POk b a l:=by
 have i:dS b a=0:=OK λd=>by unfold dN at h;rw[if_neg d] at h;exact d h
 have f:=zJ i;have c:lY b a l=0:=by unfold dN at h;rwa [if_pos i] at h
 have e:∀j,j<l.length->dT b l j=0:=by
  unfold lY at c;cases hf:(Oo l.length).find? (λk=>decide (dT b l k≠0)) with
  | some k=>
   rw[hf] at c;have:=List.find?_some hf;simp at this;exact absurd c this
  | none=>
   intro j n;have:=Sa.1 hf j (Py.2 n);simpa using this
 have g:∀x∈l,0<=x/\x<b.length:=by have:=mY e (Nv _);rwa [Ps] at this
 have d:=vU e;refine⟨f,g,d,?_,?_⟩
 ·rw[wP e] at c;unfold ss at c;exact OK λo=>by rw[if_neg o] at c;cases c
 ·have:=dg b.length l d g;have:=f.len;omega
end
section
open Go Go.RowKit Go.Co Go.Sim Go.Conc Go.ConcN
structure xf(Z Y:NA)(q:Nt):Prop where
 y:∀i,i<3->∃b c lm,∃qs:Nu Par,q.cell? ⟨Z,i*2,Ns⟩=Nq (.slice b qs.length c)/\q.cell? ⟨Z,i*2+1,Ns⟩=Nq (.int .i64 lm)/\bH 0 q.heap.size q (.slice b qs.length c) qs/\qs.length<=21
 l:∀k,k<3->∃b c,∃xs:Nu NH,q.cell? ⟨Y,k,Ns⟩=Nq (.slice b xs.length c)/\aS 0 q.heap.size q (.slice b xs.length c) xs/\xs.length<=21/\xs.length<=c
def xf.kept{Z Y:NA}{u w:Nt}(h:xf Z Y u)(a:u.gb w Ns):xf Z Y w:=by
 refine⟨λi q=>?_,λk p=>?_⟩
 ·have⟨b,c,o,j,f,e,d,r⟩:=h.y i q;exact⟨b,c,o,j,a.cl f,a.cl e,(d.kept a).mono (Nv _) a.size,r⟩
 ·have⟨b,c,g,f,e,d⟩:=h.l k p;exact⟨b,c,g,a.cl f,(e.kept a).mono (Nv _) a.size,d⟩
def xf.of{Z Y:NA}{q:Nt}{B A z v u t:NO OX}{y x w s r p:NA}{G F D:NH}{g f e:Nu Par}{c b a:Nu NH}(d:q.heap[Z]?=Nq (.cells #[.slice B g.length y,G,.slice A f.length x,F,.slice z e.length w,D] 24 (0,0)))(h:q.heap[Y]?=Nq (.cells #[.slice v c.length s,.slice u b.length r,.slice t a.length p] 29 (0,0)))(Q:bH 0 q.heap.size q (.slice B g.length y) g)(P:bH 0 q.heap.size q (.slice A f.length x) f)(O:bH 0 q.heap.size q (.slice z e.length w) e)(j:g.length<=21/\f.length<=21/\e.length<=21)(L:aS 0 q.heap.size q (.slice v c.length s) c)(I:aS 0 q.heap.size q (.slice u b.length r) b)(H:aS 0 q.heap.size q (.slice t a.length p) a)(l:c.length<=21/\b.length<=21/\a.length<=21)(n:c.length<=s/\b.length<=r/\a.length<=p):xf Z Y q:=by
 refine⟨λi N=>?_,λk M=>?_⟩
 ·match i,N with
  | 0,_=>exact⟨_,_,_,g,aa d (o:=0) rfl,aa d (o:=1) rfl,Q,j.1⟩
  | 1,_=>exact⟨_,_,_,f,aa d (o:=2) rfl,aa d (o:=3) rfl,P,j.2.1⟩
  | 2,_=>exact⟨_,_,_,e,aa d (o:=4) rfl,aa d (o:=5) rfl,O,j.2.2⟩
 ·match k,M with
  | 0,_=>exact⟨_,_,c,aa h (o:=0) rfl,L,l.1,n.1⟩
  | 1,_=>exact⟨_,_,b,aa h (o:=1) rfl,I,l.2.1,n.2.1⟩
  | 2,_=>exact⟨_,_,a,aa h (o:=2) rfl,H,l.2.2,n.2.2⟩
section
variable[J:JunkSet]{Post:Ny->Nt->Prop}{W:Nt}
end
end
end Go.Proofs.YtidgnkmjgioapaaGreat
