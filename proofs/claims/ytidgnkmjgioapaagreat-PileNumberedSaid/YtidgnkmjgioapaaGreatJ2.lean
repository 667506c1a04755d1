/-
  Part 5 of the proof. gladstonelaw04.PileNumbered answers true for every list of numbers, and leaves its argument as it was. No conditions.
-/
import Derived.Test.YtidgnkmjgioapaaGreatJ1
import Derived.Conc.AtomicLaws2
import Derived.Shelf.SlSortCmp.Whole1
import Derived.Ground.SlsfProg
import Derived.StillTailTactics
import Derived.Deep.Onto
import Derived.Maps.AppendAt
set_option maxRecDepth 100000
set_option maxHeartbeats 8000000
set_option linter.all false
open Array renaming eq_empty_of_size_eq_zero->QN,extract_size->VJ,getElem?_append->Pu,getElem?_append_left->PG,getElem?_eq_getElem->Ml,getElem?_eq_some_iff->Lz,getElem?_modify->Pt,getElem?_push->Qf,getElem?_setIfInBounds->My,getElem?_setIfInBounds_ne->ML,getElem?_toList->Qu,getElem_append->UW,length_toList->Tx,mem_append->Pj,mem_of_getElem?->NN,range->PU,replicate->MR,replicate_succ->MF,replicate_zero->MG
open Bool renaming and_eq_true->Mg,and_eq_true_iff->UV,false_eq_true->Mx,not_false->Ry,not_true->Ri,true_and->Tl,false->LH,true->LG
open Classical renaming byContradiction->MX
open Go renaming Act->ON,Addr->MN,Calls->MH,Code->Og,Event->Ns,Exit->SS,Frame->LW,FuncId->Nh,Goroutine->LD,Item->PW,Obj->SQ,Oper->NB,Operand->MS,Program->LV,Question->NU,TypeDesc->Tm,TypeId->LZ,TypeInfo->Qg,Value->LA,World->Lt,bodyPost_ret->Ot,bytes->SK,callsIn_of_wp_marks->RV,callsIn_wide->NM,doReturn->NX,execOp->OZ,grownBy_putObj'->Pi,grownCap->Qa,heap_alloc_new->LS,heap_setCell_other->PD,heap_setCell_same->TW,info_parts->Pd,maxLen->Qe,results->Om,results_tmp->Sv,run_takeDeferred->RS,run_underlying->SN,sizeOf->SY,stepG->Nb,storeCells->SZ,tryRecover->Mq,typeInfo->PT,undef->LI,unwind->Qw,wp_scope_straight->SP,yielded->Od
open Go.Builtin renaming append_->PI,firstCells->TH,lenOf->Vq,min2->VO,min_->TC,zeroCells->Ol
open Go.Calls renaming quiet_of_same->Ov
open Go.Conc renaming base->Mo,baseD->Nv,Goes->Rq,QuitsD->TJ,events_results_tmp->Sm,run_call_body->RZ,stepG_add_atomic->Qm,stepG_block->Su,stepG_load_atomic->QA,stepG_region_end->LK,stepG_seq->Mb,stepG_skip->Nr
open Go.Conc.Goes renaming stop->NY
open Go.ConcN renaming WgLive->OO,upd->QW
open Go.ConcR renaming DC0->SH
open Go.Frame renaming catches->TZ,enter->MO,finish_at->Ow
open Go.GStep renaming after->Ni
open Go.IntKind renaming wrap_i64->RU
open Go.IntWalk renaming i64_in->MI
open Go.Lib renaming hid->Lu
open Go.MemAct renaming ofEvent->Ny,touch?->Oh
open Go.Proofs.Tryz renaming f136->Td,f139->Qp,f141->Te,f142->Sz,f143->TE,f82->US,f85->PO,func136->XU,func139->Uz,func142->SO,func180->XT,ntmps59->XV,ntmps63->UA,prog->Ma
open Go.Region renaming wanted->MA
open Go.Result renaming andThen_ok->NC
open Go.RowKit.Below renaming heap_setCell->Nd,refl->RH
open Go.Sem renaming run_bind->NF,run_pure->RO
open Go.Value renaming int->Mp,oneCell'->OV,ownBlock->MP,slice->MU
open Go.World renaming alloc->Yk,cell?->Mz,frozen?->Pw,grownBy_alloc->Lr,news_of_block->Of,setCell->NS,size_alloc->Mc
open Go.World.grownBy renaming andThen->UJ,refl->Mf
open List renaming all_eq_true->MD,append_assoc->OE,append_toArray->OY,concat_eq_append->SX,cons_append->Mk,countP_eq_length_filter->Tw,count_cons->UF,drop_eq_getElem_cons->Oc,drop_succ_cons->MQ,drop_zero->Nu,eq_nil_of_length_eq_zero->MT,eq_nil_or_concat->UI,ext_getElem?->QE,filter_append->So,filter_cons->Uh,filter_filter->VI,find?_eq_none->Qt,flatMap_append->TA,flatMap_cons->Oo,foldl_append->Rs,foldl_cons->OI,getElem?_append_left->Mv,getElem?_append_right->Nz,getElem?_eq_getElem->LO,getElem?_eq_none->Nc,getElem?_eq_some_iff->Md,getElem?_map->NO,getElem?_range->Qh,getElem?_set->TV,getElem?_take->QZ,getElem?_take_of_lt->Oi,getElem_map->Wx,getElem_mem->Qo,length_append->Na,length_cons->LX,length_erase_of_mem->Se,length_filter_le->Oq,length_map->On,length_nil->Mj,length_pos_iff->Pr,length_set->OW,length_take->OX,map_append->NJ,map_cons->PS,map_nil->Ra,map_toArray->RQ,mem_append->Ob,mem_cons->MK,mem_cons_of_mem->Rx,mem_filter->Oa,mem_flatMap->Ox,mem_flatten->QQ,mem_map->Nt,mem_of_find?_eq_some->TR,mem_of_getElem?->Mh,mem_range->Nj,mem_singleton->Nl,mem_toArray->Pl,nil_append->Mu,nil_sublist->Wy,not_mem_nil->NQ,pairwise_append->Oj,pairwise_cons->PR,pairwise_flatMap->UK,pairwise_iff_getElem->PN,pairwise_map->Qc,perm_append_comm->Rr,perm_cons_erase->Vb,push_toArray->MZ,range->Mr,range'->QS,range'_1_concat->UZ,size_toArray->Mt,take_add_one->Np,take_length->NH
open List.Pairwise renaming and_mem->PP,filter->Va
open List.range renaming loop->MY
open Nat renaming add_mul->Sx,beq->UB,beq_eq->Xg,eq_of_testBit_eq->UX,land->UY,le_add_right->Ww,le_of_eq->Py,le_refl->LC,le_trans->LN,lt_of_lt_of_le->LY,lt_or_ge->NK,lt_succ_self->QM,mul_le_mul_left->Tz,mul_le_mul_right->PF,reduceAdd->Ms,reduceSub->NA,testBit_and->WL,zero_add->Mn,zero_le->Mw
open Option renaming bind_eq_some_iff->Nf,getD_some->LQ,map_some->Ng,mem_toList->Wd,none->Lw,some->Lq
open Option.some renaming injEq->MM
open Prod renaming fst->Po
open _root_ renaming Array->LM,Bool->MC,False->PC,Int->LJ,List->Lx,Nat->Ly,Option->LU,True->Ro
namespace Go.Proofs.YtidgnkmjgioapaaGreat
section
open Go Go.RowKit Go.Conc Go.ConcN Go.ConcN.Gen Go.Conc.Lib Go.ConcR.Gen Go.Co Go.Sim
def Bj(T:LM LA)(a:Lx PW):TJ Ma 2 0 (G { (Nv 139).at ⟨T,[]⟩ a with mode:=.returning } [bot]):=by
 refine QuitsD.ctl (g':=G bot []) rfl (λw=>?_) ?_
 ·simp[G,Nb,Qw,NX,Om,Frame.at,Nv,bot,Uz,Qp,seen,Ni,goexitEntry];try rfl
 refine QuitsD.ctl (g':={ G bot [] with status:=.finished }) rfl (λw=>?_) ⟨rfl,rfl⟩;simp[G,Nb,Qw,bot,goexitEntry,TZ];rfl
section
variable{Fz:Bs}{K:Lt->Lt->Prop}{Stop:Bs->LD->Lt->Prop}{S:Bs}(hK:∀a b c,K a b->K b c->K a c)
include hK
theorem Gf{Wg:Ly}{w:Lt}(l:OO 166 Wg w)(j:∀w w₁,K w w₁->LR 166 Wg w w₁)(i:∀g w,Jz Ma 166 Wg g w->Stop S g w)(e:LM LA)(d:Lx PW) :az Ma Fz K Stop S (G { (Nv 139).at ⟨e,dn Wg⟩ d with mode:=.returning } [bot]) w:=by
 refine az.pure hK rfl (λw=>stepG_unwind_enter (f:=140) (ds:=[]) rfl qd.f_done (nm_done link) rfl) ?_;have:=Go.Co.done (L:=link) (Wg:=Wg) (cs:=[bot]) (qt:=2) qd (c:={ (Nv 139).at ⟨e,[]⟩ d with mode:=.returning }) rfl (Bj e d) w l;exact az.of_goes2 (λa b h=>j a b h.k) (λw=>LR.refl w) i this
end
end
section
open Go Go.Sim
def lst:Lx Ly:=[3,4,5,6,7,8,9,10,11,12,13,14,15,16,17,18,19,20,21,22,23,24,25,26,27,28,29,30,31,32,33,34,35,36,37,38,39,40,41,42,43,44,45,46,47,48,49,50,51,52,53,54,55,56,57,58,59,60,61,62,63,64,65,66,67,68,69,70,71,72,73,74,75,76,77,78,79,80,81,82,83,84,85,86,87,88,89,90,91,92,93,94,95,96,97,98,99,100,101,102,103,104,105,106,107,108,109,110,111,112,113,114,115,116,117,118,119,120,121,122,123,124,125,126,127,128,129,130,131,132,133,134,135,136,137,145,146,147,148,149,150,151,152,153,154,155,156,157,158,159,160,161,162,163,164,165,182,188,189,190,191,192,193,194,195,196,197,198,199,200,206,207,208,209,210,211,212,213,214,215,216,217,218,219,220,221,222,223,224,241,242]
noncomputable def ls:Lets:=⟨λf=>lst.contains f,λn=>n == "gladstone/pile.holds",λb a=>biB Ya b a⟩
def Gz{f:Ly}(h:ls.f f=LG):f∈lst:=by
 have:lst.contains f=LG:=h;simpa using this
def Jo:(lst.all λf=>GR Ya Ma ls f)=LG:=by kernel_rfl
def Jn:(lst.all λf=>GR Ya Ya ls f)=LG:=by kernel_rfl
def xR:(lst.all λf=>Fe Ya ls f)=LG:=by kernel_rfl
def Ia(Q:LV)(s:Lets)(n:String)(t:Ly):MC:=match Q.info? t with
 | none=>LG
 | some i=>match i.methods.find? (·.name == n) with
  | none=>LG
  | some m=>m.path.isEmpty && (match m.func with | some (f,b)=>s.f f && (b || (match Q.underlying t with | some (.pointer _)=>LH | _=>LG)) | none=>LH)
def wv{f:LZ->LU Qg}{d:Tm}{i:Qg}(h:Made.reckon f d=Lq i):i.methods=#[]:=by
 unfold Made.reckon at h;split at h
 ·obtain⟨j,-,h⟩:=Nf.1 h;split at h
  ·cases h
  ·split at h
   ·cases h
   ·obtain⟨x,-,h⟩:=Nf.1 h;cases h;rfl
  ·obtain⟨x,-,h⟩:=Nf.1 h;cases h;rfl
 ·obtain⟨j,-,h⟩:=Nf.1 h;obtain⟨x,-,h⟩:=Nf.1 h;cases h;rfl
 ·obtain⟨j,-,h⟩:=Nf.1 h;obtain⟨x,-,h⟩:=Nf.1 h;obtain⟨x,-,h⟩:=Nf.1 h;obtain⟨x,-,h⟩:=Nf.1 h;cases h;rfl
 ·obtain⟨j,-,h⟩:=Nf.1 h;obtain⟨x,-,h⟩:=Nf.1 h;cases h;rfl
 ·obtain⟨j,-,h⟩:=Nf.1 h;cases h;rfl
 ·obtain⟨j,-,h⟩:=Nf.1 h;obtain⟨x,-,h⟩:=Nf.1 h;cases h;rfl
 ·unfold Made.reckonStruct at h;obtain⟨r,-,h⟩:=Nf.1 h;split at h<;>(dsimp only at h;split at h<;>(cases h;rfl))
 ·cases h
def BO{P:LV}{t:Ly}{i:Qg}(h:P.info? t=Lq i):t<P.types.size\/i.methods=#[]:=by
 by_cases b:t<P.types.size
 ·exact .inl b
 ·have a:Tables.info? P.toTables t=Lq i:=h;unfold Tables.info? at a;rw[if_neg b] at a;unfold Made.depth Made.infoAt at a;rw[if_neg b] at a;obtain⟨d,-,c⟩:=Nf.1 a;exact .inr (wv c)
def Ko:((Mr Ya.types.size).all (Ia Ya ls "gladstone/pile.holds"))=LG:=by kernel_rfl
def Af:∀n,ls.m n=LG->∀t i m,Ya.info? t=Lq i->i.methods.find? (·.name == n)=Lq m->m.path=#[]/\∃f b,m.func=Lq (f,b)/\ls.f f=LG/\∀e,Ya.underlying t=Lq (.pointer e)->b=LG:=by
 intro n k t i m d c;obtain rfl:n = "gladstone/pile.holds" := by simpa[ls] using k
 have j:t<Ya.types.size:=(BO d).resolve_right λe=>by rw[e] at c;cases c
 have h:=MD.1 Ko t (Nj.2 j);unfold Ia at h;rw[d] at h;dsimp only at h;rw[c] at h;dsimp only at h;have⟨p,a⟩:=UV.1 h;refine⟨by simpa using p,?_⟩;cases hm:m.func with
 | none=>rw[hm] at a;cases a
 | some q=>
  obtain⟨f,b⟩:=q;rw[hm] at a;dsimp only at a;have⟨o,g⟩:=UV.1 a;refine⟨f,b,rfl,o,λe l=>?_⟩;rw[l] at g;simpa using g
def KU:Ya.funcs[85]?≠Tryz.prog.funcs[85]?:=by
 intro h;have a:(Ya.funcs[85]?).map (λf=>f.body.isNone || (match f.body with | some (.exit _)=>LG | _=>LH))=Lq LG:=by kernel_rfl
 rw[h] at a;have b:(Tryz.prog.funcs[85]?).map (λf=>f.body.isNone || (match f.body with | some (.exit _)=>LG | _=>LH))=Lq LH:=by kernel_rfl
 rw[b] at a;cases a
def bG(f:Ly)(h:f≠85):Ya.funcs[f]?=Tryz.prog.funcs[f]?:=by
 unfold Ya;dsimp only;rw[My,if_neg (λe=>h e.symm)]
def Ii(jk:Ly->Prop):@Duo (JS Ya Ma ls jk) Ya Ma:=by
 refine ER rfl (by kernel_rfl) (by kernel_rfl) (λb a h=>h) (λf h=>?_) (λf h c=>?_) Af
 ·exact MD.1 Jo f (Gz h)
 ·exact MD.1 xR f (Gz h)
def Ih(jk:Ly->Prop):@Duo (JS Ya Ya ls jk) Ya Ya:=by
 refine ER rfl (by kernel_rfl) (by kernel_rfl) (λb a h=>h) (λf h=>?_) (λf h c=>?_) Af
 ·exact MD.1 Jn f (Gz h)
 ·exact MD.1 xR f (Gz h)
def JH(Q P:LV)(s:Lets)(jk:Ly->Prop):Up (JS Q P s jk) (JS Q Q s jk) :=
 ⟨λ_ h=>h,λ_ h=>h,λ_ _ h=>h,λ_ h=>h,λ_ ⟨⟨g,a,_⟩,b⟩=>⟨⟨g,a,a⟩,b⟩,rfl⟩
def up(jk:Ly->Prop):Up (JS Ya Ma ls jk) (JS Ya Ya ls jk):=JH _ _ _ _
def Dg:∀c,Ya.funcs[c]?≠Tryz.prog.funcs[c]?->∀a k d u,∃o w i,Nb Ya LG { frame:=MO Ya c a k,callers:=d,status:=.running,dying:=Lw } u LG=.ended o w i:=by
 intro c h a k d u;have e:c=85:=MX λf=>h (bG c f);subst e;have g:(Ya.funcs[85]?).bind (·.body)=Lq (.exit 0):=by kernel_rfl
 unfold MO;dsimp only;rw[g];exact⟨_,_,_,rfl⟩
def hrf:Tryz.prog.follows .rangeFuncRecover=LG:=by kernel_rfl
end
end Go.Proofs.YtidgnkmjgioapaaGreat
section
namespace Go.Co
open Go Go.Sim
def frz:SQ->SQ
 | .cells c e f=>.cells c e (0,max c.size f.2)
 | _=>.cells #[] 0
noncomputable def oY(Q:LV)(W:Lt)(nds jks:Lx Ly)(b:Ly):SQ :=
 if b∈jks then IX Q else if b∈nds then(match W.heap[b]? with | some o=>frz o | none=>.cells #[] 0) else .cells #[] 0
noncomputable def lw(Q:LV)(W:Lt)(nds jks:Lx Ly):Lt:={ W with heap:=(PU W.heap.size).map (oY Q W nds jks) }
def lr(n:Ly)(nds jks:Lx Ly):Ren:=(Mr n).map λb=>if b∈nds\/b∈jks then Lq b else Lw
section
variable{Q:LV}{W:Lt}{nds jks:Lx Ly}
def Ag:(lw Q W nds jks).heap.size=W.heap.size:=by simp[lw]
def uK{b:Ly}(h:b<W.heap.size):(lw Q W nds jks).heap[b]?=Lq (oY Q W nds jks b):=by simp[lw,h]
def po{n i j:Ly}:BR (lr n nds jks) i j↔i<n/\i=j/\(i∈nds\/i∈jks):=by
 unfold BR lr;rw[NO];by_cases h:i<n
 ·rw[Qh h];simp only[Ng,MM,h,true_and];split
  ·rename_i hm;simp[hm]
  ·rename_i hm;simp[hm]
 ·rw[Nc (by simp;omega)];simp[h]
def Ai{b:Ly}{a:LM LA}{e:LZ}{f:Ly × Ly}(d:b∈nds)(c:b∉jks)(h:W.heap[b]?=Lq (.cells a e f)):(lw Q W nds jks).heap[b]?=Lq (.cells a e (0,max a.size f.2)):=by
 rw[uK (Lz.1 h).1];unfold oY;rw[if_neg c,if_pos d,h];rfl
def Kc[J:JunkSet]{w:Lt}(l:∀i,JunkSet.jk i↔i∈jks)(H:Q.globals.size=0)(I:∀b∈nds,b∉jks)(G:∀b∈nds,b<W.heap.size)(B:∀b∈jks,b<W.heap.size)(p:∀b∈nds,∃n e f,W.heap[b]?=Lq (.cells n e f)/\∀(i:Ly) (v:LA),n[i]?=Lq v->VR (lr W.heap.size nds jks) v v)(z:∀b∈nds,w.heap[b]?=W.heap[b]?)(F:W.heap.size<=w.heap.size)(a:w.os=W.os)(q:∀b∈jks,∃c e f,w.heap[b]?=Lq (.cells c e f)) :WR Q W.heap.size (lr W.heap.size nds jks) (lw Q W nds jks) w where
 len:=by simp[lr,lw]
 nodup:=λi D j h C=>by rw[po] at h C;omega
 lt:=λi j h=>by rw[po] at h;omega
 obj:=λi j o h d=>by
  rw[po] at h;obtain⟨u,rfl,t⟩:=h;rw[uK u] at d;cases d;by_cases hm:i∈jks
  ·refine .inl ⟨(l i).2 hm,by unfold oY;rw[if_pos hm],by omega,q i hm⟩
  ·have g:i∈nds:=t.resolve_right hm;have⟨n,e,f,s,A⟩:=p i g;refine .inr ⟨λk=>hm ((l i).1 k),.cells n e f,by rw[z i g,s],?_⟩;have:oY Q W nds jks i=.cells n e (0,max n.size f.2):=by
    unfold oY;rw[if_neg hm,if_pos g,s];rfl
   rw[this];exact .cells e ⟨rfl,λk x y d r=>by rw[d] at r;cases r;exact A k x d⟩ λo u t=>by omega
 low:=λi hi=>by
  rw[uK hi];unfold oY;split
  ·exact⟨_,_,_,rfl,λo a=>by simp at a⟩
  ·split
   ·split
    ·rename_i o a
     cases o with
     | cells c e f=>exact⟨_,_,_,rfl,λo a=>by simp;omega⟩
     | _=>exact⟨_,_,_,rfl,λo a=>by simp at a⟩
    ·exact⟨_,_,_,rfl,λo a=>by simp at a⟩
   ·exact⟨_,_,_,rfl,λo a=>by simp at a⟩
 env:=by show W.os.env=w.os.env;rw[a]
 below:=λi hi=>B i ((l i).1 hi)
 gar:=λi o d=>by
  right;have hi:i<W.heap.size:=by
   have:=(Lz.1 d).1
   rwa [Ag] at this
  rw[uK hi] at d;cases d;unfold oY;split
  ·rfl
  ·split
   ·split
    ·rename_i o _;cases o<;>rfl
    ·rfl
   ·rfl
end
end Go.Co
namespace Go.Proofs.YtidgnkmjgioapaaGreat
open Go Go.Co Go.Sim
section
variable{Q:LV}{W:Lt}{nds jks:Lx Ly}{lo hi:Ly}
def jC{b o:Ly}{a:LM LA}{e:LZ}{f:Ly × Ly}{v:LA}(g:b∈nds)(d:b∉jks)(h:W.heap[b]?=Lq (.cells a e f))(c:a[o]?=Lq v):(lw Q W nds jks).cell? ⟨b,o,Lw⟩=Lq v :=
 aa (Ai g d h) c
def Aj{v:LA}{l:Lx LJ}(h:ai lo hi W v l)(i:∀b∈nds,b∉jks)(j:∀B o n c,v=.slice (Lq ⟨B,o,Lw⟩) n c->l≠[]->B∈nds):ai lo hi (lw Q W nds jks) v l:=by
 obtain⟨base,d,rfl,g,f⟩:=h;refine⟨base,d,rfl,g,λa=>?_⟩;obtain⟨B,o,s,t,rfl,r,q,p,k⟩:=f a;have e:=j B o _ _ rfl a;exact⟨B,o,s,_,rfl,r,q,Ai e (i B e) p,k⟩
def Ah{v:LA}{d:Lx Par}(h:aC lo hi W v d)(j:∀b∈nds,b∉jks)(k:∀B o n c,v=.slice (Lq ⟨B,o,Lw⟩) n c->d≠[]->B∈nds):aC lo hi (lw Q W nds jks) v d:=by
 obtain⟨base,e,rfl,i,g⟩:=h;refine⟨base,e,rfl,i,λa=>?_⟩;obtain⟨B,o,s,t,rfl,r,q,p,l⟩:=g a;have f:=k B o _ _ rfl a;exact⟨B,o,s,_,rfl,r,q,Ai f (j B f) p,l⟩
def Ei{v:LA}{n:Ly}{c:Ly->Ly->LJ}(h:iA lo hi W v n c)(k:∀b∈nds,b∉jks)(l:∀B o g c,v=.slice (Lq ⟨B,o,Lw⟩) g c->0<n->B∈nds):iA lo hi (lw Q W nds jks) v n c:=by
 obtain⟨base,d,rfl,j,i⟩:=h;refine⟨base,d,rfl,j,λa=>?_⟩;obtain⟨B,o,t,f,u,rfl,s,r,q,p⟩:=i a;have e:=l B o _ _ rfl a;exact⟨B,o,t,f,_,rfl,s,r,Ai e (k B e) q,p⟩
end
end Go.Proofs.YtidgnkmjgioapaaGreat
end
section
namespace Go.Proofs.YtidgnkmjgioapaaGreat
open Go Go.RowKit Go.Conc Go.ConcN Go.ConcN.Gen Go.Conc.Lib Go.ConcR.Gen Go.Co Go.Sim
inductive Lam | st | ld (i:Ly) | wk (i:Ly) | fn
structure Ph4 where
 W1:Lt
 clA:Ly->Cl
 lo:Ly
 Wg:Ly
 Nx:Ly
 A:Ly
 Fd:Ly
 Y:Ly
 V:Ly
 B:Ly
 ps:Lx Par
 lim:LJ
 l:Lx LJ
 wl:Lx LJ
 N:Ly
 c:Ly->Ly->LJ
 yb:LU MN
 yc:Ly
 ab:LU MN
 ac:Ly
 pv:LA
 vv:LA
 nds:Lx Ly
 Post:LA->Lt->Prop
 Fin:LD->Lt->Prop
 AnchW:LD->Lt->Prop
namespace Ph4
variable(x:Ph4)
def jks:Lx Ly:=[x.Wg,x.Nx,x.Fd]
def jk(b:Ly):Prop:=b∈x.jks
@[reducible] noncomputable def js:JunkSet:=JS Ya Ma ls x.jk
def Fz(b:Ly):Prop:=b<x.W1.heap.size/\x.clA b=.ro x.lo
def Sy(b:Ly):Prop:=b=x.Nx\/b=x.Fd
def DataAt(W:Ly × MC)(w:Lt):Prop:=w.heap[x.Nx]?=Lq (.cells #[W.1] 158 (0,0))/\w.heap[x.Fd]?=Lq (.cells #[.int .u32 (if W.2 then 1 else 0)] 161 (0,0))
def Liv(w:Lt):Prop:=OO 166 x.Wg w/\∃W,x.DataAt W w
def K(w w₁:Lt):Prop:=(OO 166 x.Wg w->OO 166 x.Wg w₁)/\((∃W,x.DataAt W w)->∃W,x.DataAt W w₁)
def gn:Ly->LJ:=pre Par.mn x.ps x.ps.length
def gx:Ly->LJ:=pre Par.mx x.ps x.ps.length
def bad(i:Ly):MC:=aL x.ps (ovr (x.c i) x.gn x.wl x.wl.length) x.l && !aL x.ps (ovr (x.c i) x.gx x.wl x.wl.length) x.l
noncomputable def w0:Lt:=lw Ya x.W1 x.nds x.jks
def r0:Ren:=Go.Co.lr x.W1.heap.size x.nds x.jks
def tmp0:LM LA:=tm0 x.Wg x.Nx x.A x.Fd x.Y x.V x.B
structure Ok:Prop where
 hlo:1<=x.lo
 hY:x.W1.heap[x.Y]?=Lq (.cells #[.slice x.yb x.ps.length x.yc,x.lim] 91 (0,0))
 hV:x.W1.heap[x.V]?=Lq (.cells #[x.vv] 29 (0,0))
 hB:x.W1.heap[x.B]?=Lq (.cells #[x.pv] 29 (0,0))
 hA:x.W1.heap[x.A]?=Lq (.cells #[.slice x.ab x.N x.ac] 152 (0,0))
 pars:aC 0 x.W1.heap.size x.W1 (.slice x.yb x.ps.length x.yc) x.ps
 ints:ai 0 x.W1.heap.size x.W1 x.vv x.wl
 intp:ai 0 x.W1.heap.size x.W1 x.pv x.l
 cas:iA 0 x.W1.heap.size x.W1 (.slice x.ab x.N x.ac) x.N x.c
 n5:x.ps.length<=5
 bmn:∀i,0<=x.gn i/\x.gn i<=1000
 bmx:∀i,0<=x.gx i/\x.gx i<=1000
 bc:∀i d,0<=x.c i d/\x.c i d<=1000
 hl:∀y∈x.l,0<=y/\y<x.ps.length
 ll:x.l.length<=1000
 hwl:∀y∈x.wl,0<=y/\y<5
 hN:x.N<=900000
 jlt:∀b∈x.jks,b<x.W1.heap.size
 ne1:x.Nx≠x.Fd
 ne2:x.Wg≠x.Nx
 ne3:x.Wg≠x.Fd
 sync:∀b∈x.jks,x.clA b=.sync
 nro:∀b∈x.nds,x.clA b=.ro x.lo
 nok:∀b∈x.nds,∃cs e f,x.W1.heap[b]?=Lq (.cells cs e f)/\∀(i:Ly) (v:LA),cs[i]?=Lq v->@VR x.js x.r0 v v
 n0:0∈x.nds
 nY:x.Y∈x.nds
 nV:x.V∈x.nds
 nB:x.B∈x.nds
 nA:x.A∈x.nds
 nyb:∀B o n c,MU x.yb x.ps.length x.yc=.slice (Lq ⟨B,o,Lw⟩) n c->x.ps≠[]->B∈x.nds
 nvv:∀B o n c,x.vv=.slice (Lq ⟨B,o,Lw⟩) n c->x.wl≠[]->B∈x.nds
 npv:∀B o n c,x.pv=.slice (Lq ⟨B,o,Lw⟩) n c->x.l≠[]->B∈x.nds
 nab:∀B o n c,MU x.ab x.N x.ac=.slice (Lq ⟨B,o,Lw⟩) n c->0<x.N->B∈x.nds
 cla0:∀b,x.W1.heap.size<=b->x.clA b=.mine 0
structure Cm(w:Lt):Prop where
 liv:x.Liv w
 fz:∀b,x.Fz b->w.heap[b]?=x.W1.heap[b]?
 size:x.W1.heap.size<=w.heap.size
 os:w.os=x.W1.os
structure Wk(S:Bs)(Z:Ren)(a:ON)(tm:LM LA)(wq w:Lt):Prop where
 rel:@Jv x.js Ya Ma x.W1.heap.size x.Fz S x.jk (λb=>b<x.W1.heap.size) Z a tm wq w
 le:Le x.r0 Z
 gr:x.w0.grownBy (wq.tp x.w0.tape) Lw
 sz:a.tmps.size=60
 cap:∀k,k<7->a.tmps[k]?=x.tmp0[k]?
def WA(l:Lam)(S:Bs)(g:LD)(w:Lt):Prop:=x.Cm w/\match l with
 | .st=>(g=born Ma (sI x.Wg x.Nx x.A x.Fd x.Y x.V x.B)/\∀b,¬ S b) \/
   ∃Z a c d,x.Wk S Z a c d w/\g=G ((Mo 143).at ⟨#[pt x.Fd,.bool LG,LI,LI,pt x.Fd,pt x.Fd,pt x.Fd,.bool LG,.int .u32 1,.tuple #[]],[]⟩ [.inRegion pI []]) [f10 c (dn x.Wg),bot]
 | .ld i=>i<x.N/\∃Z a c d,x.Wk S Z a c d w/\g=G ((Mo 141).at ⟨#[pt x.Nx,.int .i64 1,LI,LI,.int .i64 0,pt x.Nx,pt x.Nx,pt x.Nx,.int .i64 1,.int .i64 (i+1)],[]⟩ [.inRegion mj [5],.code .ret]) [f1 c (dn x.Wg),bot]
 | .wk i=>i<x.N/\∃Z a c d,x.Wk S Z a c d w/\a.tmps[7]?=Lq (.int .i64 i)/\a.tmps[18]?=Lq (.bool LH)/\g=G ((Mo 142).at ⟨#[pt x.Fd,LI,.bool LH,pt x.Fd,pt x.Fd,pt x.Fd,.int .u32 0,LI],[]⟩ [.inRegion mi [4,5],.code .ret]) [f2 c (dn x.Wg),bot]
 | .fn=>∃Z a c d,x.Wk S Z a c d w/\((∃i:Ly,x.N<=i/\i<=1000000/\g=G ((Mo 141).at ⟨#[pt x.Nx,.int .i64 1,LI,LI,.int .i64 0,pt x.Nx,pt x.Nx,pt x.Nx,.int .i64 1,.int .i64 (i+1)],[]⟩ [.inRegion mj [5],.code .ret]) [f1 c (dn x.Wg),bot]) \/
   (a.tmps[18]?=Lq (.bool LH)/\g=G ((Mo 142).at ⟨#[pt x.Fd,LI,.bool LH,pt x.Fd,pt x.Fd,pt x.Fd,.int .u32 1,LI],[]⟩ [.inRegion mi [4,5],.code .ret]) [f2 c (dn x.Wg),bot]))
def fin:Lam->Prop | .fn=>Ro | _=>PC
def Tr(W:Ly × MC)(l:Lam)(γ':Ly × MC)(a:Lam):Prop :=
 ((l=.st\/∃i,l=.wk i/\x.bad i=LH)/\γ'=(W.1+1,W.2)/\a=(if W.1<x.N then .ld W.1 else .fn)) \/
 (∃i,l=.ld i/\γ'=W/\a=(if W.2 then .fn else .wk i)) \/
 (∃i,l=.wk i/\x.bad i=LG/\i<x.N/\γ'=(W.1,LG)/\a=.st)
def pJ:Lam->MC | .fn=>LG | _=>LH
def jM:Ly->(Ly->Lam)->Ly
 | 0,_=>0
 | j+1,ls=>jM j ls+(if pJ (ls j) then 1 else 0)
def J(W:Ly × MC)(j:Ly)(ls:Ly->Lam):Prop :=
 W.1<=x.N+jM j ls/\(W.2=LG->∃i,i<x.N/\x.bad i=LG)/\(W.2=LH->∀i,i<x.N->i<W.1->x.bad i=LH\/∃k,k<j/\(ls k=.ld i\/ls k=.wk i))/\(∀k,k<j->ls k=.fn->W.2=LG\/x.N<=W.1)
def m(W:Ly × MC):Ly:=3*(x.N - W.1)
def nu:Lam->Ly | .fn=>0 | .st=>1 | .wk _=>2 | .ld _=>3
noncomputable def cfg:Cfg (Ly × MC) Lam where
 P:=Ma
 ty:=166
 Wg:=x.Wg
 lo:=x.lo
 n:=min 4 x.N
 Fz:=x.Fz
 Sy:=x.Sy
 clA:=x.clA
 DataAt:=x.DataAt
 WA:=x.WA
 Tr:=x.Tr
 J:=x.J
 m:=x.m
 nu:=nu
 l0:=.st
 fin:=fin
 W1:=x.W1
 Fin:=x.Fin
 AnchW:=x.AnchW
 Post:=x.Post
end Ph4
end Go.Proofs.YtidgnkmjgioapaaGreat
end
section
namespace Go.Proofs.YtidgnkmjgioapaaGreat
open Go Go.RowKit Go.Conc Go.ConcN Go.ConcN.Gen Go.Conc.Lib Go.ConcR.Gen Go.Co Go.Sim
namespace Ph4
section
variable{x:Ph4}{S:Bs}{w w₁:Lt}{Z:Ren}{a:ON}{tm:LM LA}{wq:Lt}
def kt:∀a b c,x.cfg.K a b->x.cfg.K b c->x.cfg.K a c:=Cfg.K.trans
def Cm.rely(h:x.Cm w)(r:RC x.Fz x.cfg.K S w w₁):x.Cm w₁ :=
 ⟨⟨r.k.1 h.liv.1,r.k.2 h.liv.2⟩,λb c=>(r.fz b c).t (h.fz b c),LN h.size r.size,r.os.trans h.os⟩
def Liv.cells(h:x.Liv w){b:Ly}(d:b∈x.jks):∃c e f,w.heap[b]?=Lq (.cells c e f):=by
 obtain⟨⟨l,n,i⟩,W,k,j⟩:=h;unfold jks at d;simp only[MK,NQ,or_false] at d;rcases d with rfl | rfl | rfl
 ·exact⟨_,_,_,i⟩
 ·exact⟨_,_,_,k⟩
 ·exact⟨_,_,_,j⟩
def Wk.to(h:x.Wk S Z a tm wq w)(g:∀b,x.Fz b\/S b->w₁.heap[b]?=w.heap[b]?)(k:w.heap.size<=w₁.heap.size)(l:w₁.os=w.os)(n:x.Liv w₁):x.Wk S Z a tm wq w₁:=by
 letI:JunkSet:=x.js
 exact{ h with rel:=⟨h.rel.len,h.rel.wr.rely k (by rw[l]) (λi j c d=>by
    rcases NK i x.W1.heap.size with e | f
    ·exact g j (.inl (h.rel.own.low i j c e d))
    ·exact g j (.inr (h.rel.own.own i j c f))) (λi j c d=>n.cells (h.rel.jb i j c d)),h.rel.gl,h.rel.tm,h.rel.df,h.rel.own,h.rel.jb,h.rel.js⟩ }
def Wk.rely(h:x.Wk S Z a tm wq w)(c:x.Cm w)(r:RC x.Fz x.cfg.K S w w₁):x.Wk S Z a tm wq w₁ :=
 h.to (λb d=>d.elim (r.fz b) (r.own b)) r.size r.os (c.rely r).liv
def Wk.set(h:x.Wk S Z a tm wq w)(i:Ly)(d:7<=i){u v:LA}(b:@VR x.js Z u v):x.Wk S Z ⟨a.tmps.setIfInBounds i u,a.defers⟩ (tm.setIfInBounds i v) wq w:=by
 letI:JunkSet:=x.js
 exact{ h with
  rel:=⟨h.rel.len,h.rel.wr,h.rel.gl,@AsR.set x.js _ _ _ h.rel.tm i _ _ b,h.rel.df,h.rel.own,h.rel.jb,h.rel.js⟩
  sz:=by simp[h.sz]
  cap:=λk c=>by
   show(a.tmps.setIfInBounds i u)[k]?=_;rw[ML (by omega)];exact h.cap k c }
def br0{b:Ly}(d:b∈x.nds\/b∈x.jks)(c:b<x.W1.heap.size):BR x.r0 b b:=po.2 ⟨c,rfl,d⟩
def Wk.ptr(h:x.Wk S Z a tm wq w){k b:Ly}(i:a.tmps[k]?=Lq (pt b))(j:BR x.r0 b b):tm[k]?.getD LI=pt b:=by
 letI:JunkSet:=x.js
 have⟨y,g,e⟩:=@AsR.get x.js _ _ _ h.rel.tm k _ i;rw[g];unfold pt at e ⊢;cases e with
 | ptr f d c=>rw[BR.fn c (j.mono h.le)];rfl
def Wk.bool(h:x.Wk S Z a tm wq w){k:Ly}{t:MC}(d:a.tmps[k]?=Lq (.bool t)):tm[k]?.getD LI=.bool t:=by
 letI:JunkSet:=x.js
 have⟨y,b,c⟩:=@AsR.get x.js _ _ _ h.rel.tm k _ d;rw[b];cases c;rfl
def Wk.tsz(h:x.Wk S Z a tm wq w):tm.size=60:=by
 letI:JunkSet:=x.js
 have b:=h.rel.tm.1;rw[<- b];exact h.sz
def Ok.fz(o:x.Ok){b:Ly}(c:b∈x.nds):x.Fz b:=by
 have⟨d,e,f,h,_⟩:=o.nok b c;exact⟨(Lz.1 h).1,o.nro b c⟩
def Ok.dj(o:x.Ok):∀b∈x.nds,b∉x.jks:=λb e d=>by
 have c:=o.nro b e;rw[o.sync b d] at c;cases c
def Ok.ndlt(o:x.Ok){b:Ly}(c:b∈x.nds):b<x.W1.heap.size:=(o.fz c).1
def Ok.t1(o:x.Ok)(h:x.Wk S Z a tm wq w):tm[1]?.getD LI=pt x.Nx:=h.ptr ((h.cap 1 (by omega)).t (by simp[tmp0,tm0,Pu])) (br0 (.inr (by simp[jks])) (o.jlt _ (by simp[jks])))
def Ok.t2(o:x.Ok)(h:x.Wk S Z a tm wq w):tm[2]?.getD LI=pt x.A:=h.ptr ((h.cap 2 (by omega)).t (by simp[tmp0,tm0,Pu])) (br0 (.inl o.nA) (o.ndlt o.nA))
def Ok.t3(o:x.Ok)(h:x.Wk S Z a tm wq w):tm[3]?.getD LI=pt x.Fd:=h.ptr ((h.cap 3 (by omega)).t (by simp[tmp0,tm0,Pu])) (br0 (.inr (by simp[jks])) (o.jlt _ (by simp[jks])))
def Ok.cellA(o:x.Ok)(h:x.Cm w):w.cell? x.A=Lq (.slice x.ab x.N x.ac):=aa ((h.fz _ (o.fz o.nA)).t o.hA) rfl
def Ok.vrA(o:x.Ok):@VR x.js x.r0 (.slice x.ab x.N x.ac) (.slice x.ab x.N x.ac):=by
 have⟨c,e,f,h,b⟩:=o.nok _ o.nA;rw[o.hA] at h;cases h;exact b 0 _ rfl
end
end Ph4
end Go.Proofs.YtidgnkmjgioapaaGreat
end
section
namespace Go.Proofs.YtidgnkmjgioapaaGreat
open Go Go.RowKit Go.Conc Go.ConcN Go.ConcN.Gen Go.Conc.Lib Go.ConcR.Gen Go.Co Go.Sim
def kK{w:Lt}{b o:Ly}{c:LM LA}{e:LZ}(h:w.heap[b]?=Lq (.cells c e (0,0))):w.frozen? ⟨b,o,Lw⟩=LH:=by
 simp[Pw,h]
def GH{n:Ly}(h:n<=1000001):IntKind.i64.wrap (n:LJ)=n:=MI _ (by omega)
namespace Ph4
def Hg(j:Ly)(ls:Ly->Lam):jM j ls<=j:=by
 induction j with
 | zero=>exact LC _
 | succ j b=>unfold jM;split<;>omega
section
variable{x:Ph4}(o:x.Ok){S:Bs}{w:Lt}{Z:Ren}{a:ON}{tm:LM LA}{wq:Lt}
include o
theorem Ok.fzne{b:Ly}(d:x.Fz b){j:Ly}(c:j∈x.jks):b≠j:=by
 rintro rfl;have h:=d.2;rw[o.sync _ c] at h;cases h
theorem Ok.after(e:x.Cm w){b:Ly}(f:b=x.Nx\/b=x.Fd)(v:LA){γ':Ly × MC}(j:x.DataAt γ' (w.setCell b v)):x.Cm (w.setCell b v) where
 liv:=by
  have⟨g,h,i⟩:=e.liv.1;refine⟨⟨g,h,?_⟩,γ',j⟩;show(w.setCell b v).heap[x.Wg]?=_;rw[PD _ _ _ _ (by rcases f with rfl | rfl;exact o.ne2;exact o.ne3)];exact i
 fz:=λc d=>by
  rw[PD _ _ _ _ (o.fzne d (by rcases f with rfl | rfl<;>simp[jks]))];exact e.fz c d
 size:=by simpa using e.size
 os:=e.os
theorem Ok.wkafter(i:x.Cm w)(h:x.Wk S Z a tm wq w){b:Ly}(g:b=x.Nx\/b=x.Fd)(v:LA)(f:x.Liv (w.setCell b v)):x.Wk S Z a tm wq (w.setCell b v):=by
 letI:JunkSet:=x.js
 have e:b∈x.jks:=by rcases g with rfl | rfl<;>simp[jks]
 refine h.to (λc d=>?_) (by simp) rfl f;refine PD _ _ _ _ ?_;rcases d with d | d
 ·exact o.fzne d e
 ·rintro rfl;exact h.rel.js _ (o.jlt _ e) d
theorem Ok.sync1{l:Lam}(t:l=.st\/∃i,l=.wk i/\x.bad i=LH)(v:x.Cm w)(h:x.Wk S Z a tm wq w) :x.cfg.Stop l S (G ((Mo 141).at ⟨#[pt x.Nx,.int .i64 1,LI,LI,.int .i64 0,pt x.Nx,pt x.Nx,pt x.Nx,.int .i64 1,LI],[]⟩ [.inRegion mj [4,5],.code .ret]) (f1 tm (dn x.Wg)::[bot])) w:=by
 refine⟨rfl,.inr ⟨by rcases t with rfl | ⟨i,rfl,_⟩<;>exact id,?_⟩⟩;rintro⟨c,b⟩ B ⟨j,ls,z,hJ⟩;have hγ:c<=x.N+4:=by
  have I:c<=x.N+jM j ls:=hJ.1;have F:=Hg j ls;have H:j<=min 4 x.N:=z;omega
 have D:=o.hN;obtain⟨s,C⟩:=B;have d:w.cell? x.Nx=Lq (.int .i64 c):=aa s rfl;have y:=kK (o:=0) s;have p:IntKind.i64.wrap ((c:LJ)+1)=c+1:=by have:=GH (n:=c+1) (by omega);simpa using this
 have k:x.DataAt (c+1,b) (w.setCell x.Nx (.int .i64 (c+1))):=by
  refine⟨?_,?_⟩
  ·rw[TW _ _ _ _ _ _ s];simp
  ·rw[PD _ _ _ _ (Ne.symm o.ne1)];exact C
 have f:=o.after v (.inl rfl) (.int .i64 (c+1)) k;have g:=o.wkafter v h (.inl rfl) (.int .i64 (c+1)) f.liv;refine⟨G ((Mo 141).at ⟨#[pt x.Nx,.int .i64 1,LI,LI,.int .i64 0,pt x.Nx,pt x.Nx,pt x.Nx,.int .i64 1,.int .i64 (c+1)],[]⟩ [.inRegion mj [5],.code .ret]) (f1 tm (dn x.Wg)::[bot]),w.setCell x.Nx (.int .i64 (c+1)),#[⟨.cell ⟨x.Nx,0,Lw⟩,LH,LG⟩,⟨.cell ⟨x.Nx,0,Lw⟩,LG,LG⟩],(c+1,b),if c<x.N then .ld c else .fn,?_,λc r=>PD _ _ _ _ λe=>r (.inl e),by simp,rfl,rfl,?_,k,.inl ⟨t,rfl,rfl⟩,?_⟩
 ·refine(Qm (o:=mj[4]'(by simp only[mj,Te,LQ,sqA,sqB,aW];decide)) (by simp) (by simp only[mj,Te,LQ,sqA,sqB,aW];rfl) (by k_ne) (by simp only[mj,Te,LQ,sqA,sqB,aW];rfl) Tryz.func179 (by kernel_rfl) (by kernel_rfl) (by kernel_rfl) .i64 (by kernel_rfl) rfl rfl d y).trans ?_;rw[p];simp only[mj,Te,LQ,sqA,sqB,aW];rfl
 ·intro e u;simp at u;rcases u with rfl | rfl
  ·exact⟨_,_,rfl,.inl rfl⟩
  ·exact⟨_,_,rfl,.inl rfl⟩
 ·show x.WA _ _ _ _;split
  ·rename_i q
   exact⟨f,q,Z,a,tm,wq,g,rfl⟩
  ·rename_i A
   exact⟨f,Z,a,tm,wq,g,.inl ⟨c,by omega,by omega,rfl⟩⟩
theorem Ok.sync2{i:Ly}(p:i<x.N)(n:x.Cm w)(h:x.Wk S Z a tm wq w)(r:a.tmps[7]?=Lq (.int .i64 i))(f:a.tmps[18]?=Lq (.bool LH)) :x.cfg.Stop (.ld i) S (G ((Mo 142).at ⟨#[pt x.Fd,LI,.bool LH,pt x.Fd,pt x.Fd,pt x.Fd,LI,LI],[]⟩ [.inRegion mi [3,4,5],.code .ret]) (f2 tm (dn x.Wg)::[bot])) w:=by
 refine⟨rfl,.inr ⟨id,?_⟩⟩;rintro⟨c,b⟩ l ⟨j,ls,t,hJ⟩;have g:=l;obtain⟨u,s⟩:=l;have d:w.cell? x.Fd=Lq (.int .u32 (if b then 1 else 0)):=aa s rfl;refine⟨G ((Mo 142).at ⟨#[pt x.Fd,LI,.bool LH,pt x.Fd,pt x.Fd,pt x.Fd,.int .u32 (if b then 1 else 0),LI],[]⟩ [.inRegion mi [4,5],.code .ret]) (f2 tm (dn x.Wg)::[bot]),w,#[⟨.cell ⟨x.Fd,0,Lw⟩,LH,LG⟩],(c,b),if b then .fn else .wk i,?_,λc q=>rfl,rfl,rfl,rfl,?_,g,.inr (.inl ⟨i,rfl,rfl,rfl⟩),?_⟩
 ·refine(QA (o:=mi[3]'(by simp only[mi,Sz,LQ,sqA,sqB,aW];decide)) (by simp) (by simp only[mi,Sz,LQ,sqA,sqB,aW];rfl) (by k_ne) (by simp only[mi,Sz,LQ,sqA,sqB,aW];rfl) XT (by kernel_rfl) (by kernel_rfl) (by kernel_rfl) .u32 (by kernel_rfl) rfl d).trans ?_;simp only[mi,Sz,LQ,sqA,sqB,aW];rfl
 ·intro e k;simp at k;subst k;exact⟨_,_,rfl,.inr rfl⟩
 ·show x.WA _ _ _ _;cases b with
  | true=>exact⟨n,Z,a,tm,wq,h,.inr ⟨f,rfl⟩⟩
  | false=>exact⟨n,p,Z,a,tm,wq,h,r,f,rfl⟩
theorem Ok.sync3{i:Ly}(s:i<x.N)(u:x.bad i=LG)(q:x.Cm w)(h:x.Wk S Z a tm wq w) :x.cfg.Stop (.wk i) S (G ((Mo 143).at ⟨#[pt x.Fd,.bool LG,LI,LI,pt x.Fd,pt x.Fd,pt x.Fd,.bool LG,.int .u32 1,LI],[]⟩ [.inRegion pI [5]]) (f10 tm (dn x.Wg)::[bot])) w:=by
 refine⟨rfl,.inr ⟨id,?_⟩⟩;rintro⟨c,b⟩ t ⟨j,ls,y,hJ⟩;obtain⟨v,n⟩:=t;have d:w.cell? x.Fd=Lq (.int .u32 (if b then 1 else 0)):=aa n rfl;have r:=kK (o:=0) n;have f:x.DataAt (c,LG) (w.setCell x.Fd (.int .u32 1)):=by
  refine⟨?_,?_⟩
  ·rw[PD _ _ _ _ o.ne1];exact v
  ·rw[TW _ _ _ _ _ _ n];simp
 have g:=o.after q (.inr rfl) (.int .u32 1) f;have k:=o.wkafter q h (.inr rfl) (.int .u32 1) g.liv;refine⟨G ((Mo 143).at ⟨#[pt x.Fd,.bool LG,LI,LI,pt x.Fd,pt x.Fd,pt x.Fd,.bool LG,.int .u32 1,.tuple #[]],[]⟩ [.inRegion pI []]) (f10 tm (dn x.Wg)::[bot]),w.setCell x.Fd (.int .u32 1),#[⟨.cell ⟨x.Fd,0,Lw⟩,LG,LG⟩],(c,LG),.st,?_,λc l=>PD _ _ _ _ λe=>l (.inr e),by simp,rfl,rfl,?_,f,.inr (.inr ⟨i,rfl,u,s,rfl,rfl⟩),?_⟩
 ·refine(stepG_store_atomic (o:=pI[5]'(by simp only[pI,TE,LQ,sqA,sqB,aW];decide)) (by simp) (by simp only[pI,TE,LQ,sqA,sqB,aW];rfl) (by k_ne) (by simp only[pI,TE,LQ,sqA,sqB,aW];rfl) Tryz.func181 (by kernel_rfl) (by kernel_rfl) (by kernel_rfl) (by kernel_rfl) rfl rfl d r).trans ?_;simp only[pI,TE,LQ,sqA,sqB,aW];rfl
 ·intro e p;simp at p;subst p;exact⟨_,_,rfl,.inr rfl⟩
 ·exact(⟨g,.inr ⟨Z,a,tm,wq,k,rfl⟩⟩:x.WA .st S _ _)
end
end Ph4
end Go.Proofs.YtidgnkmjgioapaaGreat
end
section
namespace Go.Proofs.YtidgnkmjgioapaaGreat
open Go Go.RowKit Go.Conc Go.ConcN Go.ConcN.Gen Go.Conc.Lib Go.ConcR.Gen Go.Co Go.Sim
def Ft[JunkSet]{Z:Ren}{t:LM LA}(h:∀v∈t,VR Z v v):AsR Z t t:=⟨rfl,λi u v c b=>by
 rw[c] at b;cases b;exact h u (NN c)⟩
def JG:wX=.seq wR3 (.seq wR4 (.seq wR9 vB)):=by kernel_rfl
def ck3:fU Ya ls wR3=LG:=by kernel_rfl
def ck4:fU Ya ls wR4=LG:=by kernel_rfl
def ck9:fU Ya ls wR9=LG:=by kernel_rfl
def hrr(c:LW):Mq c [bot]=Lw:=by
 unfold Mq;split
 ·rename_i h
  cases h;simp[bot,goexitEntry]
 ·rename_i h
  cases h;have:Mq bot []=Lw:=by
   unfold Mq;rfl
  rw[this];rfl
 ·rfl
namespace Ph4
section
variable{x:Ph4}(o:x.Ok){S:Bs}{w:Lt}{Z:Ren}{a:ON}{tm:LM LA}{wq:Lt}
include o
theorem Ok.born(f:x.Cm w)(n:∀b,¬ S b):x.Wk S x.r0 ⟨x.tmp0,[]⟩ x.tmp0 x.w0 w:=by
 letI:JunkSet:=x.js
 refine⟨⟨by simp[r0,Go.Co.lr],?_,λi p=>?_,?_,rfl,⟨λi j h _ g=>?_,λi j h c=>?_⟩,λi j h g=>?_,λj _=>n j⟩,Le.refl _,Mf _ _,by simp[tmp0,tm0],λ_ _=>rfl⟩
 ·exact Kc (λi=>Iff.rfl) (by kernel_rfl) o.dj (λb c=>o.ndlt c) o.jlt o.nok (λb c=>f.fz b (o.fz c)) f.size f.os λb c=>f.liv.cells c
 ·have q:Tryz.prog.globals.size=0:=by kernel_rfl
  have:i=0:=by omega
  subst this;exact br0 (.inl o.n0) (o.ndlt o.n0)
 ·refine Ft λv k=>?_;have d:∀b,b∈x.nds\/b∈x.jks->VR x.r0 (pt b) (pt b):=λb c=>.ptr 0 Lw (br0 c (c.elim (λh=>o.ndlt h) λh=>o.jlt _ h));simp only[tmp0,tm0,Pj,Array.mem_replicate,Pl,MK,NQ,or_false] at k;rcases k with(rfl | rfl | rfl | rfl | rfl | rfl | rfl) | ⟨_,rfl⟩
  ·exact d _ (.inr (by simp[jks]))
  ·exact d _ (.inr (by simp[jks]))
  ·exact d _ (.inl o.nA)
  ·exact d _ (.inr (by simp[jks]))
  ·exact d _ (.inl o.nY)
  ·exact d _ (.inl o.nV)
  ·exact d _ (.inl o.nB)
  ·exact gz _
 ·obtain⟨l,rfl,e⟩:=po.1 h;rcases e with e | e
  ·exact o.fz e
  ·exact absurd e g
 ·obtain⟨l,rfl,e⟩:=po.1 h;omega
 ·obtain⟨l,rfl,e⟩:=po.1 h;exact g
theorem Ok.piece{d:Bs->LD->Lt->Prop}(hSo:∀S g w t,d S g w->d S { g with offers:=t } w){c:Og}(hco:fU Ya ls c=LG){k:Lx PW}(hc:x.Cm w)(h:x.Wk S Z a tm wq w){R:ON->Lt->Prop}(hwp:∀T,c.wp Ya (eL R) a (wq.tp T))(hR:∀f u,R f u->f.defers=[]/\f.tmps.size=60/\(∀k,k<7->f.tmps[k]?=x.tmp0[k]?)/\x.w0.gb (u.tp x.w0.tape) Lw)(hend:∀s ρ' f j i l,R f i->x.Cm l->x.Wk s ρ' f j i l->az Ma x.Fz x.cfg.K d s (G ((Nv 139).at ⟨j,dn x.Wg⟩ k) [bot]) l) :az Ma x.Fz x.cfg.K d S (G ((Nv 139).at ⟨tm,dn x.Wg⟩ (.code c::k)) [bot]) w:=by
 letI:JunkSet:=x.js
 refine az.piece (J:=x.js) (Ii x.jk) (X:=⟨JS Ya Ya ls x.jk⟩) (up x.jk) (Ih x.jk) hrf hrr Dg x.jk (λb=>b<x.W1.heap.size) x.Cm (λS w w₁ r e=>e.rely r) (λS w l L A q e=>?_) (λw b e n=>e.liv.cells n) (λw b e n=>LY n e.size) hSo (b:=Nv 139) ?_ (by kernel_rfl) rfl (xP (λ_ h=>h) (λ_ h=>h) (λ_ _ h=>h) hco) h.rel hc hwp (λf u p=>(hR f u p).1) ?_
 ·refine⟨⟨?_,?_⟩,λb n=>(q b n.1).trans (e.fz b n),LN e.size A.size,A.os.trans e.os⟩
  ·have⟨C,D,F⟩:=e.liv.1;exact⟨C,D,(q _ (o.jlt _ (by simp[jks]))).trans F⟩
  ·have⟨W,B,z⟩:=e.liv.2;exact⟨W,(q _ (o.jlt _ (by simp[jks]))).trans B,(q _ (o.jlt _ (by simp[jks]))).trans z⟩
 ·refine⟨_,(bG 139 (by decide)).trans Uz,Uz⟩
 ·intro ρ' f j i l s p v hrel y;have⟨B,z,I,H⟩:=hR _ _ p;exact hend s ρ' f j i l p y ⟨hrel,h.le.trans v,H,z,I⟩
end
end Ph4
end Go.Proofs.YtidgnkmjgioapaaGreat
end
section
namespace Go.Proofs.YtidgnkmjgioapaaGreat
open Go Go.RowKit Go.Conc Go.ConcN Go.ConcN.Gen Go.Conc.Lib Go.ConcR.Gen Go.Co Go.Sim
def Fu(z:LM LA)(h:z.size=60):z=#[z[0]?.getD LI,z[1]?.getD LI,z[2]?.getD LI,z[3]?.getD LI,z[4]?.getD LI,z[5]?.getD LI,z[6]?.getD LI,z[7]?.getD LI,z[8]?.getD LI,z[9]?.getD LI,z[10]?.getD LI,z[11]?.getD LI,z[12]?.getD LI,z[13]?.getD LI,z[14]?.getD LI,z[15]?.getD LI,z[16]?.getD LI,z[17]?.getD LI,z[18]?.getD LI,z[19]?.getD LI,z[20]?.getD LI,z[21]?.getD LI,z[22]?.getD LI,z[23]?.getD LI,z[24]?.getD LI,z[25]?.getD LI,z[26]?.getD LI,z[27]?.getD LI,z[28]?.getD LI,z[29]?.getD LI,z[30]?.getD LI,z[31]?.getD LI,z[32]?.getD LI,z[33]?.getD LI,z[34]?.getD LI,z[35]?.getD LI,z[36]?.getD LI,z[37]?.getD LI,z[38]?.getD LI,z[39]?.getD LI,z[40]?.getD LI,z[41]?.getD LI,z[42]?.getD LI,z[43]?.getD LI,z[44]?.getD LI,z[45]?.getD LI,z[46]?.getD LI,z[47]?.getD LI,z[48]?.getD LI,z[49]?.getD LI,z[50]?.getD LI,z[51]?.getD LI,z[52]?.getD LI,z[53]?.getD LI,z[54]?.getD LI,z[55]?.getD LI,z[56]?.getD LI,z[57]?.getD LI,z[58]?.getD LI,z[59]?.getD LI]:=by
 obtain⟨y0,y1,y2,y3,y4,y5,y6,y7,y8,y9,c8,c3,b9,b8,b7,b6,b0,a8,a7,a6,Y,X,W,V,U,T,R,Q,P,O,N,M,L,I,H,G,F,D,C,B,A,y,v,u,t,s,r,q,p,n,l,k,j,i,g,f,e,d,c,b,rfl⟩:=qS z h;rfl
def xr{w0 wq c:Lt}{T:Ly->NU->Ly}(h:w0.gb (wq.tp w0.tape) Lw)(b:(wq.tp T).gb c Lw):w0.gb (c.tp w0.tape) Lw :=
 ⟨b.os.trans h.os,rfl,b.output.trans h.output,LN h.size b.size,λk e d=>(b.block k (LY e h.size) d).t (h.block k e d)⟩
def Ez{w0 wq:Lt}(T:Ly->NU->Ly)(h:w0.gb (wq.tp w0.tape) Lw):(w0.tp T).gb (wq.tp T) Lw:=⟨h.os,rfl,h.output,h.size,h.block⟩
def Ki{w0 b:Lt}{T:Ly->NU->Ly}(h:(w0.tp T).gb b Lw):w0.gb (b.tp w0.tape) Lw:=⟨h.os,rfl,h.output,h.size,h.block⟩
def Fc{z b:LM LA}(e:z.size=60)(d:∀k,k<7->z[k]?=b[k]?)(k:Ly)(c:k<7):b[k]?=Lq (z[k]?.getD LI):=by
 rw[<- d k c,Ml (by omega)];rfl
namespace Ph4
section
variable{x:Ph4}(o:x.Ok){S:Bs}{w:Lt}{Z:Ren}{a:ON}{tm:LM LA}{wq:Lt}
structure Base(x:Ph4)(i:Ly)(a:ON)(u:Lt):Prop where
 df:a.defers=[]
 sz:a.tmps.size=60
 cap:∀k,k<7->a.tmps[k]?=x.tmp0[k]?
 gr:x.w0.grownBy (u.tp x.w0.tape) Lw
 i7:a.tmps[7]?=Lq (.int .i64 i)
def Rows(x:Ph4)(g h:Ly->LJ)(a:ON)(u:Lt):Prop:=∃c b,a.tmps[8]?=Lq (.pointer (Lq ⟨c,0,Lw⟩))/\a.tmps[9]?=Lq (.pointer (Lq ⟨b,0,Lw⟩))/\u.heap[c]?=Lq (aR g)/\u.heap[b]?=Lq (aR h)/\c≠b/\x.w0.heap.size<=c/\x.w0.heap.size<=b
def Wk.df(h:x.Wk S Z a tm wq w):a.defers=[]:=by
 letI:JunkSet:=x.js
 exact h.rel.df
include o
theorem Ok.capv(h:x.Wk S Z a tm wq w)(k b:Ly)(c:k<7)(e:x.tmp0[k]?=Lq (pt b)):a.tmps[k]?.getD LI=.pointer (Lq b):=by
 rw[h.cap k c,e];rfl
theorem Ok.w0s:x.w0.heap.size=x.W1.heap.size:=Ag
theorem Ok.wp3(h:x.Wk S Z a tm wq w){i:Ly}(I:a.tmps[7]?=Lq (.int .i64 i))(T:Ly->NU->Ly) :wR3.wp Ya (eL λa u=>x.Base i a u/\x.Rows x.gn x.gx a u) a (wq.tp T):=by
 have b:=h.df;obtain⟨z,d⟩:=a;have b:d=[]:=b;subst b;have g:z[4]?.getD LI=.pointer (Lq x.Y):=o.capv h 4 x.Y (by omega) (by simp[tmp0,tm0]);have p:=Fc h.sz h.cap;have j:z.size=60:=h.sz;have c:z[7]?=Lq (.int .i64 i):=I;have f:=Ez T h.gr;have H:aC 0 x.W1.heap.size (wq.tp T) (.slice x.yb x.ps.length x.yc) x.ps:=(show aC 0 x.W1.heap.size (x.w0.tp T) (.slice x.yb x.ps.length x.yc) x.ps from Ah (Q:=Ya) (jks:=x.jks) o.pars o.dj o.nyb).kept f;have C:=o.ndlt o.nY;have r:(wq.tp T).cell? x.Y=Lq (.slice x.yb x.ps.length x.yc):=f.cl (jC o.nY (o.dj _ o.nY) o.hY rfl);have q:(wq.tp T).cell? ⟨x.Y,1,Lw⟩=Lq (.int .i64 x.lim):=f.cl (jC o.nY (o.dj _ o.nY) o.hY rfl);have y:x.W1.heap.size<=(wq.tp T).heap.size:=by rw[<- o.w0s];exact f.size
 generalize e:(λk:Ly=>z[k]?.getD LI)=t;have A:z=#[t 0,t 1,t 2,t 3,t 4,t 5,t 6,t 7,t 8,t 9,t 10,t 11,t 12,t 13,t 14,t 15,t 16,t 17,t 18,t 19,t 20,t 21,t 22,t 23,t 24,t 25,t 26,t 27,t 28,t 29,t 30,t 31,t 32,t 33,t 34,t 35,t 36,t 37,t 38,t 39,t 40,t 41,t 42,t 43,t 44,t 45,t 46,t 47,t 48,t 49,t 50,t 51,t 52,t 53,t 54,t 55,t 56,t 57,t 58,t 59]:=by subst e;exact Fu z j
 have g:t 4=.pointer (Lq x.Y):=by subst e;exact g
 have p:∀k,k<7->x.tmp0[k]?=Lq (t k):=by subst e;exact p
 have c:t 7=.int .i64 i:=by subst e;show z[7]?.getD LI=_;rw[c];rfl
 rw[A];refine IR 0 x.W1.heap.size t (wq.tp T) _ x.ps x.lim x.Y x.yb x.yc g H y o.n5 r q (by omega) λM L N _ _ _ _ n v s l G F=>?_;have B:x.w0.heap.size<=(wq.tp T).heap.size:=by rw[o.w0s];exact y
 refine⟨⟨rfl,rfl,λk D=>?_,xr h.gr n,by rw[<- c];rfl⟩,M,L,rfl,rfl,v,s,l,by omega,by omega⟩;rw[p k D];obtain rfl | rfl | rfl | rfl | rfl | rfl | rfl:k=0\/k=1\/k=2\/k=3\/k=4\/k=5\/k=6:=by omega
 all_goals first | rfl | (rw[g];rfl)
theorem Ok.wp4(h:x.Wk S Z a tm wq w){i:Ly}(W:i<x.N)(hb:x.Base i a wq)(R:x.Rows x.gn x.gx a wq)(T:Ly->NU->Ly) :wR4.wp Ya (eL λa u=>x.Base i a u/\x.Rows (ovr (x.c i) x.gn x.wl x.wl.length) (ovr (x.c i) x.gx x.wl x.wl.length) a u) a (wq.tp T):=by
 obtain⟨s,r,n,l,H,G,f,j,g⟩:=R;have e:=h.df;obtain⟨z,d⟩:=a;have e:d=[]:=e;subst e;have L:=o.capv h 4 x.Y (by omega) (by simp[tmp0,tm0]);have q:=o.capv h 2 x.A (by omega) (by simp[tmp0,tm0]);have p:=o.capv h 5 x.V (by omega) (by simp[tmp0,tm0]);have M:=o.capv h 6 x.B (by omega) (by simp[tmp0,tm0]);have C:=Fc h.sz h.cap;have v:z.size=60:=h.sz;have I:z[7]?=Lq (.int .i64 i):=hb.i7;have n:z[8]?=Lq (.pointer (Lq s)):=n;have l:z[9]?=Lq (.pointer (Lq r)):=l;have X:=Ez T h.gr;have P:x.W1.heap.size<=(x.w0.tp T).heap.size:=Py o.w0s.symm;generalize b:(λk:Ly=>z[k]?.getD LI)=t;have O:z=#[t 0,t 1,t 2,t 3,t 4,t 5,t 6,t 7,t 8,t 9,t 10,t 11,t 12,t 13,t 14,t 15,t 16,t 17,t 18,t 19,t 20,t 21,t 22,t 23,t 24,t 25,t 26,t 27,t 28,t 29,t 30,t 31,t 32,t 33,t 34,t 35,t 36,t 37,t 38,t 39,t 40,t 41,t 42,t 43,t 44,t 45,t 46,t 47,t 48,t 49,t 50,t 51,t 52,t 53,t 54,t 55,t 56,t 57,t 58,t 59]:=by subst b;exact Fu z v
 have L:t 4=.pointer (Lq x.Y):=by subst b;exact L
 have q:t 2=.pointer (Lq x.A):=by subst b;exact q
 have p:t 5=.pointer (Lq x.V):=by subst b;exact p
 have M:t 6=.pointer (Lq x.B):=by subst b;exact M
 have C:∀k,k<7->x.tmp0[k]?=Lq (t k):=by subst b;exact C
 have I:t 7=.int .i64 i:=by subst b;show z[7]?.getD LI=_;rw[I];rfl
 have n:t 8=.pointer (Lq s):=by subst b;show z[8]?.getD LI=_;rw[n];rfl
 have l:t 9=.pointer (Lq r):=by subst b;show z[9]?.getD LI=_;rw[l];rfl
 rw[O];refine IQ 0 x.W1.heap.size t (x.w0.tp T) (wq.tp T) _ x.A x.V _ x.vv x.N i x.c x.wl s r x.gn x.gx q (jC o.nA (o.dj _ o.nA) o.hA rfl) (Ei (Q:=Ya) (jks:=x.jks) o.cas o.dj o.nab) p (jC o.nV (o.dj _ o.nV) o.hV rfl) (Aj (Q:=Ya) (jks:=x.jks) o.ints o.dj o.nvv) I W n l X H G f j g P o.hwl ?_;intro _ _ _ _ _ _ _ _ _ _ _ _ _ _ _ _ _ _ _ _ _ _ _ _ w' y F D;refine⟨⟨rfl,rfl,λk U=>?_,Ki y,rfl⟩,s,r,rfl,rfl,F,D,f,j,g⟩;rw[C k U];obtain rfl | rfl | rfl | rfl | rfl | rfl | rfl:k=0\/k=1\/k=2\/k=3\/k=4\/k=5\/k=6:=by omega
 all_goals first | rfl | (rw[q];rfl) | (rw[p];rfl)
theorem Ok.wp9(h:x.Wk S Z a tm wq w){i:Ly}(hi:i<x.N)(hb:x.Base i a wq)(P:x.Rows (ovr (x.c i) x.gn x.wl x.wl.length) (ovr (x.c i) x.gx x.wl x.wl.length) a wq)(T:Ly->NU->Ly) :wR9.wp Ya (eL λa u=>x.Base i a u/\a.tmps[58]?=Lq (.bool (x.bad i))) a (wq.tp T):=by
 obtain⟨G,F,j,f,C,y,R,X,W⟩:=P;have e:=h.df;obtain⟨z,d⟩:=a;have e:d=[]:=e;subst e;have n:=o.capv h 4 x.Y (by omega) (by simp[tmp0,tm0]);have L:=o.capv h 2 x.A (by omega) (by simp[tmp0,tm0]);have I:=o.capv h 5 x.V (by omega) (by simp[tmp0,tm0]);have p:=o.capv h 6 x.B (by omega) (by simp[tmp0,tm0]);have v:=Fc h.sz h.cap;have q:z.size=60:=h.sz;have D:z[7]?=Lq (.int .i64 i):=hb.i7;have j:z[8]?=Lq (.pointer (Lq G)):=j;have f:z[9]?=Lq (.pointer (Lq F)):=f;have s:=Ez T h.gr;have O:x.W1.heap.size<=(x.w0.tp T).heap.size:=Py o.w0s.symm;generalize b:(λk:Ly=>z[k]?.getD LI)=t;have M:z=#[t 0,t 1,t 2,t 3,t 4,t 5,t 6,t 7,t 8,t 9,t 10,t 11,t 12,t 13,t 14,t 15,t 16,t 17,t 18,t 19,t 20,t 21,t 22,t 23,t 24,t 25,t 26,t 27,t 28,t 29,t 30,t 31,t 32,t 33,t 34,t 35,t 36,t 37,t 38,t 39,t 40,t 41,t 42,t 43,t 44,t 45,t 46,t 47,t 48,t 49,t 50,t 51,t 52,t 53,t 54,t 55,t 56,t 57,t 58,t 59]:=by subst b;exact Fu z q
 have n:t 4=.pointer (Lq x.Y):=by subst b;exact n
 have L:t 2=.pointer (Lq x.A):=by subst b;exact L
 have I:t 5=.pointer (Lq x.V):=by subst b;exact I
 have p:t 6=.pointer (Lq x.B):=by subst b;exact p
 have v:∀k,k<7->x.tmp0[k]?=Lq (t k):=by subst b;exact v
 have D:t 7=.int .i64 i:=by subst b;show z[7]?.getD LI=_;rw[D];rfl
 have j:t 8=.pointer (Lq G):=by subst b;show z[8]?.getD LI=_;rw[j];rfl
 have f:t 9=.pointer (Lq F):=by subst b;show z[9]?.getD LI=_;rw[f];rfl
 rw[M];have H:∀(g:Ly->LJ),(∀d,0<=g d/\g d<=1000)->∀d,0<=ovr (x.c i) g x.wl x.wl.length d/\ovr (x.c i) g x.wl x.wl.length d<=1000:=λg s d=>by
  unfold ovr;split
  ·exact o.bc i d
  ·exact s d
 refine IP 0 x.W1.heap.size t (x.w0.tp T) (wq.tp T) _ x.Y x.B x.yb x.yc x.pv x.ps x.lim x.l G F _ _ n (jC o.nY (o.dj _ o.nY) o.hY rfl) (jC o.nY (o.dj _ o.nY) o.hY rfl) (Ah (Q:=Ya) (jks:=x.jks) o.pars o.dj o.nyb) p (jC o.nB (o.dj _ o.nB) o.hB rfl) (Aj (Q:=Ya) (jks:=x.jks) o.intp o.dj o.npv) j f s C y O o.n5 o.hl o.ll (H _ o.bmn) (H _ o.bmx) ?_;intro _ _ _ _ _ _ _ _ _ _ w' r;refine⟨⟨rfl,rfl,λk U=>?_,xr h.gr r,by rw[<- D];rfl⟩,rfl⟩;rw[v k U];obtain rfl | rfl | rfl | rfl | rfl | rfl | rfl:k=0\/k=1\/k=2\/k=3\/k=4\/k=5\/k=6:=by omega
 all_goals first | rfl | (rw[n];rfl) | (rw[p];rfl)
theorem Ok.walk{c:Bs->LD->Lt->Prop}(hSo:∀S g w s,c S g w->c S { g with offers:=s } w){i:Ly}(hi:i<x.N)(hc:x.Cm w)(h:x.Wk S Z a tm wq w)(h7:a.tmps[7]?=Lq (.int .i64 i))(hend:∀B ρ' l d p q,x.Cm q->x.Wk B ρ' l d p q->l.tmps[58]?=Lq (.bool (x.bad i))->az Ma x.Fz x.cfg.K c B (G ((Nv 139).at ⟨d,dn x.Wg⟩ (.code vB::.inBlock 1::dF)) [bot]) q) :az Ma x.Fz x.cfg.K c S (G ((Nv 139).at ⟨tm,dn x.Wg⟩ (.code wX::.inBlock 1::dF)) [bot]) w:=by
 rw[JG];refine az.seq kt ?_;refine o.piece hSo ck3 hc h (λT=>o.wp3 h h7 T) (λl u b=>⟨b.1.df,b.1.sz,b.1.cap,b.1.gr⟩) λV ρ1 R I D P f A k=>?_;refine az.seq kt ?_;refine o.piece hSo ck4 A k (λT=>o.wp4 k hi f.1 f.2 T) (λl u b=>⟨b.1.df,b.1.sz,b.1.cap,b.1.gr⟩) λU ρ2 Q H C O e z j=>?_;refine az.seq kt ?_;refine o.piece hSo ck9 z j (λT=>o.wp9 j hi e.1 e.2 T) (λl u b=>⟨b.1.df,b.1.sz,b.1.cap,b.1.gr⟩) λM ρ3 L r n F t y v=>?_;exact hend M ρ3 L r n F y v t.2
end
end Ph4
end Go.Proofs.YtidgnkmjgioapaaGreat
end
section
namespace Go.Proofs.YtidgnkmjgioapaaGreat
open Go Go.RowKit Go.Conc Go.ConcN Go.ConcN.Gen Go.Conc.Lib Go.ConcR.Gen Go.Co Go.Sim
namespace Ph4
section
variable{x:Ph4}
def cN(j:Ly)(ls:Ly->Lam):jM (j+1) ls=jM j ls+(if pJ (ls j) then 1 else 0):=rfl
def Cj{j i:Ly}{ls:Ly->Lam}{l:Lam}(d:pJ (ls i)=LH)(c:pJ l=LH):jM j (QW ls i l)=jM j ls:=by
 induction j with
 | zero=>rfl
 | succ j b=>
  rw[cN,cN];rw[b];by_cases e:j=i
  ·subst e;simp[QW,d,c]
  ·simp[QW,e]
def xQ{j i:Ly}{ls:Ly->Lam}{l:Lam}(b:pJ (ls i)=LH):jM j ls<=jM j (QW ls i l):=by
 induction j with
 | zero=>exact LC _
 | succ j c=>
  rw[cN,cN];by_cases e:j=i
  ·subst e;simp[b];omega
  ·simp[QW,e];omega
def Hh{j i:Ly}{ls:Ly->Lam}(g:i<j)(d:pJ (ls i)=LH):jM j (QW ls i .fn)=jM j ls+1:=by
 induction j with
 | zero=>omega
 | succ j c=>
  rw[cN,cN];by_cases e:j=i
  ·subst e;have:∀n,n<=j->jM n (QW ls j .fn)=jM n ls:=by
    intro n f;induction n with
    | zero=>rfl
    | succ n b=>
     rw[cN,cN];rw[b (by omega)];simp[QW,show n≠j by omega]
   rw[this j (LC _),d,show pJ (QW ls j .fn j)=LG from by simp[QW,pJ]];simp
  ·rw[c (by omega)];simp[QW,e];omega
def EY{j:Ly}{ls:Ly->Lam}{l:Lam}(h:pJ l=LH):jM (j+1) (QW ls j l)=jM j ls:=by
 have:∀n,n<=j->jM n (QW ls j l)=jM n ls:=by
  intro n c;induction n with
  | zero=>rfl
  | succ n b=>
   rw[cN,cN];rw[b (by omega)];simp[QW,show n≠j by omega]
 rw[cN,this j (LC _)];simp[QW,h]
def hJ0:∀W j ls,x.J W j ls->x.J W (j+1) (QW ls j .st):=by
 rintro W j ls ⟨q,p,n,l⟩;refine⟨by rw[EY rfl];exact q,p,λg i f c=>?_,λk d b=>?_⟩
 ·rcases n g i f c with h | ⟨k,d,h⟩
  ·exact .inl h
  ·exact .inr ⟨k,by omega,by rw[show QW ls j .st k=ls k from by simp[QW,show k≠j by omega]];exact h⟩
 ·by_cases e:k=j
  ·subst e;simp[QW] at b
  ·rw[show QW ls j .st k=ls k from by simp[QW,e]] at b;exact l k (by omega) b
def hJ:∀W j ls i γ' r,x.J W j ls->i<j->x.Tr W (ls i) γ' r->x.J γ' j (QW ls i r):=by
 rintro W j ls i γ' r ⟨G,F,D,C⟩ B H;have v:∀k,k≠i->QW ls i r k=ls k:=λk g=>by simp[QW,g]
 have y:QW ls i r i=r:=by simp[QW]
 rcases H with⟨d,rfl,rfl⟩ | ⟨t,d,rfl,rfl⟩ | ⟨t,d,A,z,rfl,rfl⟩
 ·have c:pJ (ls i)=LH:=by rcases d with h | ⟨t,h,_⟩<;>rw[h]<;>rfl
  refine⟨?_,F,λs u p q=>?_,λk g b=>?_⟩
  ·by_cases n:W.1<x.N
   ·simp only[n,if_true];omega
   ·simp only[n,if_false];rw[Hh B c];omega
  ·by_cases e:u=W.1
   ·subst e;exact .inr ⟨i,B,.inl (by rw[y,if_pos p])⟩
   ·rcases D s u p (by have:u<W.1+1:=q;omega) with h | ⟨k,g,h⟩
    ·exact .inl h
    ·by_cases f:k=i
     ·subst f;rcases d with d | ⟨t,d,A⟩
      ·rw[d] at h;rcases h with h | h<;>cases h
      ·rw[d] at h;rcases h with h | h
       ·cases h
       ·cases h;exact .inl A
     ·exact .inr ⟨k,g,by rw[v k f];exact h⟩
  ·by_cases f:k=i
   ·subst f;rw[y] at b;by_cases n:W.1<x.N
    ·rw[if_pos n] at b;cases b
    ·exact .inr (by show x.N<=W.1+1;omega)
   ·rw[v k f] at b;exact(C k g b).imp id λh=>by show x.N<=W.1+1;omega
 ·have c:pJ (ls i)=LH:=by rw[d];rfl
  refine⟨LN G (by have:=xQ (j:=j) (l:=if γ'.2 then Lam.fn else .wk t) c;omega),F,λs u p q=>?_,λk g b=>?_⟩
  ·rcases D s u p q with h | ⟨k,g,h⟩
   ·exact .inl h
   ·refine .inr ⟨k,g,?_⟩;by_cases f:k=i
    ·subst f;rw[d] at h;rcases h with h | h
     ·cases h;rw[y,s];exact .inr rfl
     ·cases h
    ·rw[v k f];exact h
  ·by_cases f:k=i
   ·subst f;rw[y] at b;cases hg:γ'.2 with
    | true=>exact .inl rfl
    | false=>rw[hg] at b;cases b
   ·rw[v k f] at b;exact C k g b
 ·have c:pJ (ls i)=LH:=by rw[d];rfl
  exact⟨by rw[Cj c rfl];exact G,λ_=>⟨t,z,A⟩,λs=>(by cases s),λk g b=>.inl rfl⟩
def hm:∀W l γ' c,x.Tr W l γ' c->x.m γ'+nu c<x.m W+nu l:=by
 rintro W l γ' c e;unfold m;rcases e with⟨f,rfl,rfl⟩ | ⟨d,rfl,rfl,rfl⟩ | ⟨d,rfl,j,g,rfl,rfl⟩
 ·have i:1<=nu l:=by rcases f with h | ⟨d,h,_⟩<;>rw[h]<;>simp[nu]
  show 3*(x.N - (W.1+1))+nu (if W.1<x.N then .ld W.1 else .fn)<3*(x.N - W.1)+nu l;by_cases b:W.1<x.N
  ·rw[if_pos b];show 3*(x.N - (W.1+1))+3<_;omega
  ·rw[if_neg b];show 3*(x.N - (W.1+1))+0<_;omega
 ·cases γ'.2<;>simp[nu]
 ·simp[nu]
def J.final{W:Ly × MC}{ls:Ly->Lam}(h:x.J W (min 4 x.N) ls)(f:∀i,i<min 4 x.N->fin (ls i)):W.2=LG↔∃i,i<x.N/\x.bad i=LG:=by
 obtain⟨p,n,l,j⟩:=h;refine⟨n,λ⟨i,e,g⟩=>?_⟩;have c:∀k,k<min 4 x.N->ls k=.fn:=λk d=>by
  have:=f k d;cases hl:ls k<;>rw[hl] at this<;>first | rfl | exact this.elim
 rcases j 0 (by omega) (c 0 (by omega)) with h | h
 ·exact h
 ·cases hg:W.2 with
  | true=>rfl
  | false=>
   rcases l hg i e (by omega) with b | ⟨k,d,b⟩
   ·rw[g] at b;cases b
   ·rw[c k d] at b;rcases b with b | b<;>cases b
def hSo{l:Lam}:∀S g w c,x.cfg.Stop l S g w->x.cfg.Stop l S { g with offers:=c } w:=by
 rintro S g w c ⟨k,j⟩;refine⟨k,?_⟩;rcases j with⟨d,n,e,r⟩ | ⟨d,f⟩
 ·exact .inl ⟨d,n,e,r⟩
 ·exact .inr ⟨d,λW i h=>f W i h⟩
variable(o:x.Ok){S:Bs}{w:Lt}{Z:Ren}{a:ON}{tm:LM LA}{wq:Lt}
include o in
theorem Ok.toA{l:Lam}(d:l=.st\/∃i,l=.wk i/\x.bad i=LH)(c:x.Cm w)(b:x.Wk S Z a tm wq w) :az Ma x.Fz x.cfg.K (x.cfg.Stop l) S (G ((Nv 139).at ⟨tm,dn x.Wg⟩ (.code wLB::dF)) [bot]) w :=
 Gi kt (o.t1 b) λ_ h₁=>o.sync1 d (c.rely h₁) (b.rely c h₁)
def toE(c:x.Cm w)(tm:LM LA)(b:Lx PW):az Ma x.Fz x.cfg.K (x.cfg.Stop .fn) S (G { (Nv 139).at ⟨tm,dn x.Wg⟩ b with mode:=.returning } [bot]) w :=
 Gf kt c.liv.1 (λ_ _ k=>k.1) (λ_ _ h=>⟨h.1,.inl ⟨trivial,h.2⟩⟩) tm b
include o in
theorem Ok.hW:∀l S g w,x.WA l S g w->az Ma x.Fz x.cfg.K (x.cfg.Stop l) S g w:=by
 letI:JunkSet:=x.js
 rintro l S g w ⟨d,h⟩;have q:x.A<w.heap.size:=LY (o.ndlt o.nA) d.size;cases l with
 | st=>
  rcases h with⟨rfl,v⟩ | ⟨Z,a,tm,wq,b,rfl⟩
  ·exact yN kt (o.toA (.inl rfl) d (o.born d v))
  ·exact Gg kt (o.toA (.inl rfl) d (b.set 59 (by omega) (gz _)))
 | ld i=>
  obtain⟨p,Z,a,tm,wq,b,rfl⟩:=h;refine Gh (av:=LI) kt b.tsz (o.t2 b) (o.t3 b) (λw₁ h₁=>o.cellA (d.rely h₁)) (o.fz o.nA) q p (by have:=o.hN;omega) (λw₁ h₁=>?_);have r:=b.rely d h₁;have f:=(((((((r.set 12 (by omega) (.int .i64 (i+1))).set 13 (by omega) (.int .i64 i)).set 7 (by omega) (.int .i64 i)).set 14 (by omega) (.int .i64 i)).set 15 (by omega) (o.vrA.mono b.le)).set 16 (by omega) (.int .i64 x.N)).set 17 (by omega) (.bool LH)).set 18 (by omega) (.bool LH);exact o.sync2 p (d.rely h₁) f (by simp[My,b.sz]) (by simp[My,b.sz])
 | wk i=>
  obtain⟨p,Z,a,tm,wq,b,y,k,rfl⟩:=h;refine DJ kt b.tsz (b.bool k) ?_;have f:=(b.set 19 (by omega) (.bool LH)).set 20 (by omega) (.bool LH);refine o.walk hSo p d f (by simp[My,y]) λF ρ' D u s C j c e=>?_;cases hb:x.bad i with
  | false=>
   rw[hb] at e;exact Ge kt c.tsz (c.bool e) (o.toA (.inr ⟨i,rfl,hb⟩) j c)
  | true=>
   rw[hb] at e;exact Gd kt (λw n=>⟨id,id⟩) c.tsz (o.t3 c) (c.bool e) λw₁ h₁=>o.sync3 p hb (j.rely h₁) (c.rely j h₁)
 | fn=>
  obtain⟨Z,a,tm,wq,b,⟨i,B,z,rfl⟩ | ⟨k,rfl⟩⟩:=h
  ·exact DK kt b.tsz (o.t2 b) (λw₁ h₁=>o.cellA (d.rely h₁)) (o.fz o.nA) q B z (toE d)
  ·exact DI kt b.tsz (b.bool k) (toE d)
include o in
theorem Ok.cfg(hAr:∀g w,x.AnchW g w->g.status=.running)(hAn:∀g w,x.AnchW g w->∃m,x.cfg.GM x.cfg.AtW1 m g w)(hFin:∀W ls g w,x.Fin g w->x.J W (min 4 x.N) ls->(∀i,i<min 4 x.N->fin (ls i))->x.DataAt W w->x.cfg.Ph w->E Ma x.Post (flat x.clA) g w):x.cfg.Ok where
 hn:=by show min 4 x.N<2147483648;omega
 hlo:=o.hlo
 dat:=λW w e h d=>⟨(h _ (.inl rfl)).t d.1,(h _ (.inr rfl)).t d.2⟩
 fzc:=λb c=>⟨c.2,c.1⟩
 syc:=λb c=>by
  have:b∈x.jks:=by rcases c with rfl | rfl<;>simp[jks]
  exact⟨o.sync b this,o.jlt b this⟩
 cla0:=o.cla0
 wgc:=⟨o.sync _ (by simp[Ph4.cfg,jks]),o.jlt _ (by simp[Ph4.cfg,jks]),λh=>h.elim o.ne2 o.ne3⟩
 hW:=o.hW
 hJ0:=hJ0
 hJ:=hJ
 hm:=hm
 hAr:=hAr
 hAn:=hAn
 hFin:=hFin
end
end Ph4
end Go.Proofs.YtidgnkmjgioapaaGreat
end
namespace Go.Proofs.YtidgnkmjgioapaaGreat
section
open Go Go.RowKit Go.Conc Go.ConcN Go.ConcN.Gen Go.Conc.Lib Go.ConcR.Gen Go.Co Go.Sim
def kM{i:Ly->Cl}{A o a:Ly}{wr:MC}(h:i A=.mine 0)(j:A<a):EvG i a 0 ⟨.cell ⟨A,o,Lw⟩,wr,Mode.plain == Mode.atomic⟩/\dH ⟨.cell ⟨A,o,Lw⟩,wr,Mode.plain == Mode.atomic⟩:=by
 refine⟨λx f b g=>?_,by simp[dH],by simp,by simp⟩;have d:x=⟨.cell ⟨A,o,Lw⟩,wr,.plain⟩:=by
  have e:(Mode.plain == Mode.atomic)=LH:=by decide
  rw[e] at f;cases wr<;>(simp[Ny,Oh] at f;exact f.symm)
 subst d;simp only[Go.Co.blk,MM] at g;subst g;exact⟨j,.inl ⟨h,rfl⟩⟩
def ly{w:Lt}{b o d:Ly}{a:LM LA}{e:LZ}{f:Ly × Ly}{v:LA}(h:w.heap[b]?=Lq (.cells a e f))(g:a[o]?=Lq v):(w.at d).cell? ⟨b,o,Lw⟩=Lq v:=aa (w:=w.at d) h g
structure Nw(w w1:Lt)(B:Ly)(c:LM LA)(e:LZ):Prop where
 eq:w1=w.alloc (.cells c e)
 at_:B=w.heap.size
section
variable{w w1:Lt}{B:Ly}{c:LM LA}{e:LZ}
def nw(w:Lt)(c:LM LA)(e:LZ):∃B w1,Nw w w1 B c e:=⟨_,_,⟨rfl,rfl⟩⟩
def Nw.size(h:Nw w w1 B c e):w1.heap.size=w.heap.size+1:=by rw[h.eq];simp
def Nw.le(h:Nw w w1 B c e):w.heap.size<=w1.heap.size:=by rw[h.size];omega
def Nw.lt(h:Nw w w1 B c e):B<w1.heap.size:=by rw[h.size,h.at_];omega
def Nw.new(h:Nw w w1 B c e):w1.heap[B]?=Lq (.cells c e (0,0)):=by
 rw[h.eq,h.at_];unfold Yk;exact Array.getElem?_push_size
def Nw.old(h:Nw w w1 B c e){b:Ly}(a:b<w.heap.size):w1.heap[b]?=w.heap[b]?:=by
 rw[h.eq];simp only[Yk,Qf];rw[if_neg (by omega)]
def Nw.os(h:Nw w w1 B c e):w1.os=w.os:=by rw[h.eq];rfl
def Nw.output(h:Nw w w1 B c e):w1.output=w.output:=by rw[h.eq];rfl
end
def KW(N:Ly):(if(N:LJ)<4 then(N:LJ) else 4)=((min 4 N:Ly):LJ):=by split<;>omega
def Jk(N:Ly)(w:Lt)(P:LV):(TC #[3,3] 3 #[.int .i64 4,N]).events P w #[]=#[]:=by
 simp[go_sem,TC,VO]
def rz{P:LV}{w:Lt}{a:LM Ns}{d:MN}{b:LU MN}{l c:Ly}:(Go.store d (.slice b l c)).events P w a=storedEv P w a d (.slice b l c) .plain:=events_store P w a d _ .plain rfl
structure At5(Q:LV)[JunkSet](M:Ly)(w:Lt)(cl:Ly->Cl)(Z:Ren)(yb pb vb ab:LU MN)(n yc pn pc vn vc N ac:Ly)(lim:LJ)(Y B V A Nx Fd Wg:Ly)(O:Ren)(wq:Lt)(w5:Lt)(cl5:Ly->Cl):Prop where
 wr:WR Q M O wq w5
 ln:M<=O.length
 le:Le Z O
 fr:∀i j,BR O i j->BR Z i j\/w.heap.size<=j
 own:ie cl5 O
 kp:fQ M 0 w O w5
 c0:∀b,w5.heap.size<=b->cl5 b=.mine 0
 cold:∀b,b<w.heap.size->cl5 b=cl b
 hY:w5.heap[Y]?=Lq (.cells #[.slice yb n yc,lim] 91 (0,0))
 hB:w5.heap[B]?=Lq (.cells #[.slice pb pn pc] 29 (0,0))
 hV:w5.heap[V]?=Lq (.cells #[.slice vb vn vc] 29 (0,0))
 hA:w5.heap[A]?=Lq (.cells #[.slice ab N ac] 152 (0,0))
 hNx:w5.heap[Nx]?=Lq (.cells #[.int .i64 0] 158 (0,0))
 hFd:w5.heap[Fd]?=Lq (.cells #[.int .u32 0] 161 (0,0))
 hWg:w5.heap[Wg]?=Lq (.cells #[.int .u64 0,.int .u32 0] 166 (0,0))
 cY:cl5 Y=.mine 0
 cB:cl5 B=.mine 0
 cV:cl5 V=.mine 0
 cA:cl5 A=.mine 0
 cNx:cl5 Nx=.sync
 cFd:cl5 Fd=.sync
 cWg:cl5 Wg=.sync
 l1:w.heap.size<=Nx
 l2:Nx<Fd
 l3:Fd<Wg
noncomputable def x85:Og:=sqB (sqB (sqB (sqB (sqB (Tryz.f85.body.getD .skip)))))
noncomputable def kH:Og:=sqB (sqA x85)
noncomputable def jY:Og:=sqB x85
def Iy(i t o q:LU MN)(n h r s k l N p:Ly)(a:LJ)(Y B V A v x u:Ly)(j:LJ)(g f d b:LA):LM LA :=
 #[.agg #[.slice i n h,a],.slice t r s,.slice o k l,.pointer (Lq Y),.pointer (Lq B),.pointer (Lq V),.bool LH,.pointer (Lq A),.pointer (Lq v),.pointer (Lq x),.pointer (Lq u),.agg #[.slice i n h,a],.slice o k l,.slice q N p,.slice q N p,N,.int .i64 (min 4 N:Ly),j,g,f,d,b,LI,LI]
def JF[JunkSet]{M:Ly}(D:Two Ya Ma)(s1:JunkSet.okf 137){Rc:LA->Lt->Prop}{yq vq:LA}{wq:Lt}{Z:Ren}{e6:LA->Lt->Prop}{p:Ly->Cl}{cs:Lx LW}{w:Lt}{yb pb vb:LU MN}{n yc pn pc vn vc:Ly}{C:LJ}(S:∀b,w.heap.size<=b->p b=.mine 0)(n4:M<=Z.length)(hw:WR Ya M Z wq w)(hG:Gl Ma Z)(m9:ie p Z)(hy:VR Z yq (.agg #[.slice yb n yc,C]))(hv:VR Z vq (.slice vb vn vc))(p3:∀i,¬ JunkSet.jk i)(p4:∀T,MH Ya 137 #[yq,vq] (wq.tp T) λe u=>∃v,e=.returned v/\Rc v u)(r9:∀v u,Rc v u->∃b N c,v=.slice b N c)(X:∀O b6 v Y B V A Nx Fd Wg W N U w5 q1,Rc v b6->VR O v (.slice W N U)->At5 Ya M w p Z yb pb vb W n yc pn pc vn vc N U C Y B V A Nx Fd Wg O b6 w5 q1 ->EE Ma e6 q1 (G ((Mo 85).at ⟨Iy yb pb vb W n yc pn pc vn vc N U C Y B V A Nx Fd Wg 0 LI undef undef undef,[]⟩ [.code kH,.code jY]) cs) w5) :EE Ma e6 p (G ((Mo 85).at ⟨#[.agg #[.slice yb n yc,C],.slice pb pn pc,.slice vb vn vc]++MR 21 LI,[]⟩ [.code (Tryz.f85.body.getD .skip)]) cs) w:=by
 simp only[kH,jY,x85,Iy] at X;simp only[PO,LQ,sqA,sqB,inn] at X ⊢;refine EE.seq ?_;refine EE.region ?_;simp only[Mt,LX,Mj,Ms,Mn,Mr,MY];have⟨Y,w1,a⟩:=nw w #[.slice yb n yc,C] 91;refine EE.op (.pointer (Lq ⟨Y,0,Lw⟩)) w1 p rfl rfl (by k_ne) (λd=>by rw[a.eq,a.at_];go_simp;exact⟨rfl,rfl⟩) (λd=>by simp[go_sem]) a.le (λ_ _=>rfl) (λb o=>S b (by have:=a.size;omega)) ?_;walk_nrm;have⟨B,w2,f⟩:=nw w1 #[.slice pb pn pc] 29;refine EE.op (.pointer (Lq ⟨B,0,Lw⟩)) w2 p rfl rfl (by k_ne) (λd=>by rw[f.eq,f.at_];go_simp;exact⟨rfl,rfl⟩) (λd=>by simp[go_sem]) f.le (λ_ _=>rfl) (λb o=>S b (by have:=a.size;have:=f.size;omega)) ?_;walk_nrm;have⟨V,q,k⟩:=nw w2 #[.slice vb vn vc] 29;have d5:∀b,q.heap.size<=b->p b=.mine 0:=λb o=>S b (by have:=a.size;have:=f.size;have:=k.size;omega);refine EE.op (.pointer (Lq ⟨V,0,Lw⟩)) q p rfl rfl (by k_ne) (λd=>by rw[k.eq,k.at_];go_simp;exact⟨rfl,rfl⟩) (λd=>by simp[go_sem]) k.le (λ_ _=>rfl) d5 ?_;walk_nrm;refine EE.value (.bool LH) rfl rfl (by k_ne) (λ_=>by go_simp) (λ_=>by simp[go_sem]) ?_;walk_nrm;refine EE.region_end ?_;refine EE.seq ?_;refine EE.region ?_;simp only[Mt,LX,Mj,Ms,Mn,Mr,MY];have hY:q.heap[Y]?=Lq (.cells #[.slice yb n yc,C] 91 (0,0)):=by
  rw[k.old (LY a.lt f.le),f.old a.lt];exact a.new
 have hB:q.heap[B]?=Lq (.cells #[.slice pb pn pc] 29 (0,0)):=by
  rw[k.old f.lt];exact f.new
 have hV:=k.new;have cY:p Y=.mine 0:=S _ (by rw[a.at_];omega);have cB:p B=.mine 0:=S _ (by rw[f.at_];exact a.le);have cV:p V=.mine 0:=S _ (by rw[k.at_];exact LN a.le f.le);have sY:Y<q.heap.size:=LY a.lt (LN f.le k.le);have sB:B<q.heap.size:=LY f.lt k.le;have sV:V<q.heap.size:=k.lt;have s7:∀d,(q.at d).cell? ⟨Y,0,Lw⟩=Lq (.slice yb n yc):=λd=>ly hY rfl;have s5:∀d,(q.at d).cell? ⟨Y,1,Lw⟩=Lq (.int .i64 C):=λd=>ly hY rfl;have t1:∀d,(q.at d).cell? ⟨V,0,Lw⟩=Lq (.slice vb vn vc):=λd=>ly hV rfl;refine EE.op (.agg #[.slice yb n yc,C]) q p rfl rfl (by k_ne) (λd=>by go_simp) (λd e Q=>by
  simp[go_sem,s7,s5] at Q;rcases Q with rfl | rfl
  ·exact kM cY sY
  ·exact kM cY sY) (LC _) (λ_ _=>rfl) d5 ?_
 walk_nrm;refine EE.op (.slice vb vn vc) q p rfl rfl (by k_ne) (λd=>by go_simp) (λd e Q=>by
  simp[go_sem,t1] at Q;rw[Q];exact kM cV sV) (LC _) (λ_ _=>rfl) d5 ?_
 walk_nrm;refine EE.enter rfl rfl (by k_ne) rfl Tryz.func137 (by kernel_rfl) rfl ?_;walk_nrm;have r8:WR Ya M Z wq q:=hw.rely (LN a.le (LN f.le k.le)) (by rw[k.os,f.os,a.os]) (λi j H _=>by
  have hj:=hw.lt i j H;rw[k.old (LY hj (LN a.le f.le)),f.old (LY hj a.le),a.old hj]) (λi j _ h=>absurd h (p3 i))
 have nY:∀i,¬ BR Z i Y:=λi h=>by have:=hw.lt _ _ h;rw[a.at_] at this;omega
 have nB:∀i,¬ BR Z i B:=λi h=>by have:=hw.lt _ _ h;have:=a.le;rw[f.at_] at *;omega
 have nV:∀i,¬ BR Z i V:=λi h=>by have:=hw.lt _ _ h;have:=a.le;have:=f.le;rw[k.at_] at *;omega
 refine EE.call D (R:=Rc) s1 (bG 137 (by decide)) (aq:=#[yq,vq]) (Z:=Z) (wq:=wq) ?_ n4 r8 hG p4 rfl rfl m9 d5 ?_
 ·refine⟨rfl,λi x y hx m6=>?_⟩;have hi:i<2:=by
   have:=(Lz.1 hx).1;simpa using this
  obtain rfl | rfl:i=0\/i=1:=by omega
  ·cases hx;cases m6;exact hy
  ·cases hx;cases m6;exact hv
 intro O b6 v v' w4 p6 m8 g9 n6 c3 h8 p5 l;obtain⟨q9,N,U,rfl⟩:=r9 _ _ p6;obtain⟨W,rfl⟩:∃W,v'=.slice W N U:=by cases m8<;>exact⟨_,rfl⟩
 have fY:∀i,¬ BR O i Y:=λi h=>(c3 i Y h).elim (nY i) (by omega);have fB:∀i,¬ BR O i B:=λi h=>(c3 i B h).elim (nB i) (by omega);have fV:∀i,¬ BR O i V:=λi h=>(c3 i V h).elim (nV i) (by omega);have s3:=(l.old Y sY λi h=>absurd h (fY i)).t hY;have t2:=(l.old B sB λi h=>absurd h (fB i)).t hB;have s9:=(l.old V sV λi h=>absurd h (fV i)).t hV;rw[Ow];walk_nrm;have⟨A,w5,P⟩:=nw w4 #[.slice Lw 0 0] 152;have k6:∀b,w5.heap.size<=b->p b=.mine 0:=λb o=>p5 b (LN P.le o);refine EE.op (.pointer (Lq ⟨A,0,Lw⟩)) w5 p rfl rfl (by k_ne) (λd=>by rw[P.eq,P.at_];go_simp;exact⟨rfl,rfl⟩) (λd=>by simp[go_sem]) P.le (λ_ _=>rfl) k6 ?_;walk_nrm;have cA:p A=.mine 0:=p5 _ (by rw[P.at_];omega);have d6:=P.new;have q0:∀d,(w5.at d).cell? ⟨A,0,Lw⟩=Lq (.slice Lw 0 0):=λd=>ly d6 rfl;have p7:∀d,(w5.at d).frozen? ⟨A,0,Lw⟩=LH:=λd=>kK (w:=w5.at d) d6;obtain⟨L,F⟩:∃L,L=w5.setCell ⟨A,0,Lw⟩ (.slice W N U):=⟨_,rfl⟩;have s6:L.heap.size=w5.heap.size:=by rw[F];simp
 refine EE.store L rfl rfl (by k_ne) (λd=>by rw[F];clear F;go_simp;rfl) (λd e Q=>by
  simp[go_sem] at Q;rw[rz] at Q;simp[storedEv,q0,p7] at Q;rw[Q];exact kM cA (by rw[s6];exact P.lt)) s6 k6 ?_
 walk_nrm;have t6:L.heap[A]?=Lq (.cells #[.slice W N U] 152 (0,0)):=by
  rw[F,TW _ _ _ _ _ _ d6];simp
 have m5:∀b,b<w4.heap.size->L.heap[b]?=w4.heap[b]?:=λb o=>by
  rw[F,PD _ _ _ _ (by rw[P.at_];show b≠w4.heap.size;omega)];exact P.old o
 have m4:L.os=w4.os:=by rw[F];exact P.os
 have r5:L.output=w4.output:=by rw[F];exact P.output
 have s2:∀b,L.heap.size<=b->p b=.mine 0:=λb o=>k6 b (by omega);have s4:w4.heap.size<=L.heap.size:=by rw[s6];exact P.le
 have r4:A<L.heap.size:=by rw[s6];exact P.lt
 clear F q0 p7 d6 s6;refine EE.region_end ?_;refine EE.seq ?_;refine EE.region ?_;simp only[Mt,LX,Mj,Ms,Mn,Mr,MY];have⟨Nx,w7,z⟩:=nw L #[.int .i64 0] 158;obtain⟨c7,k5⟩:∃c7:Ly->Cl,c7=λb=>if b=Nx then .sync else p b:=⟨_,rfl⟩;have a7:∀b,b<L.heap.size->c7 b=p b:=λb o=>by rw[k5];simp only;rw[if_neg (by rw[z.at_];omega)]
 have b7:∀b,w7.heap.size<=b->c7 b=.mine 0:=λb o=>by rw[k5];simp only;rw[if_neg (by have:=z.lt;omega)];exact s2 b (LN z.le o)
 refine EE.op (.pointer (Lq ⟨Nx,0,Lw⟩)) w7 c7 rfl rfl (by k_ne) (λd=>by rw[z.eq,z.at_];go_simp;exact⟨rfl,rfl⟩) (λd=>by simp[go_sem]) z.le a7 b7 ?_;walk_nrm;refine EE.region_end ?_;refine EE.seq ?_;refine EE.region ?_;simp only[Mt,LX,Mj,Ms,Mn,Mr,MY];have⟨Fd,w8,r⟩:=nw w7 #[.int .u32 0] 161;obtain⟨c8,k0⟩:∃c8:Ly->Cl,c8=λb=>if b=Fd then .sync else c7 b:=⟨_,rfl⟩;have a8:∀b,b<w7.heap.size->c8 b=c7 b:=λb o=>by rw[k0];simp only;rw[if_neg (by rw[r.at_];omega)]
 have b8:∀b,w8.heap.size<=b->c8 b=.mine 0:=λb o=>by rw[k0];simp only;rw[if_neg (by have:=r.lt;omega)];exact b7 b (LN r.le o)
 refine EE.op (.pointer (Lq ⟨Fd,0,Lw⟩)) w8 c8 rfl rfl (by k_ne) (λd=>by rw[r.eq,r.at_];go_simp;exact⟨rfl,rfl⟩) (λd=>by simp[go_sem]) r.le a8 b8 ?_;walk_nrm;refine EE.region_end ?_;refine EE.seq ?_;refine EE.region ?_;simp only[Mt,LX,Mj,Ms,Mn,Mr,MY];have⟨Wg,w9,I⟩:=nw w8 #[.int .u64 0,.int .u32 0] 166;obtain⟨c9,h9⟩:∃c9:Ly->Cl,c9=λb=>if b=Wg then .sync else c8 b:=⟨_,rfl⟩;have a9:∀b,b<w8.heap.size->c9 b=c8 b:=λb o=>by rw[h9];simp only;rw[if_neg (by rw[I.at_];omega)]
 have b9:∀b,w9.heap.size<=b->c9 b=.mine 0:=λb o=>by rw[h9];simp only;rw[if_neg (by have:=I.lt;omega)];exact b8 b (LN I.le o)
 refine EE.op (.pointer (Lq ⟨Wg,0,Lw⟩)) w9 c9 rfl rfl (by k_ne) (λd=>by rw[I.eq,I.at_];go_simp;exact⟨rfl,rfl⟩) (λd=>by simp[go_sem]) I.le a9 b9 ?_;walk_nrm;have e7:=z.le;have e8:=r.le;have e9:=I.le;have s:∀b,b<w4.heap.size->w9.heap[b]?=w4.heap[b]?:=λb o=>by
  rw[I.old (by omega),r.old (by omega),z.old (by omega)];exact m5 b o
 have g:∀b,b<L.heap.size->c9 b=p b:=λb o=>by rw[a9 b (by omega),a8 b (by omega),a7 b o]
 have p9:w9.heap[A]?=Lq (.cells #[.slice W N U] 152 (0,0)):=by
  rw[I.old (by omega),r.old (by omega),z.old (by omega)];exact t6
 refine EE.region_end ?_;refine EE.seq ?_;refine EE.seq ?_;refine EE.region ?_;simp only[Mt,LX,Mj,Ms,Mn,Mr,MY];have p8:∀d,(w9.at d).cell? ⟨A,0,Lw⟩=Lq (.slice W N U):=λd=>ly p9 rfl;have q2:c9 A=.mine 0:=(g A r4).t cA;have r6:A<w9.heap.size:=by omega
 refine EE.op (.slice W N U) w9 c9 rfl rfl (by k_ne) (λd=>by go_simp) (λd e Q=>by
  simp[go_sem,p8] at Q;rw[Q];exact kM q2 r6) (LC _) (λ_ _=>rfl) b9 ?_
 walk_nrm;refine EE.value (.int .i64 N) rfl rfl (by k_ne) (λ_=>by go_simp) (λ_=>by simp[go_sem]) ?_;walk_nrm;refine EE.value (.int .i64 (min 4 N:Ly)) rfl rfl (by k_ne) (λ_=>by go_simp;first|rw[KW]|omega) (λ_=>by simp[go_sem];exact Jk _ _ _) ?_;walk_nrm;refine EE.value (.int .i64 0) rfl rfl (by k_ne) (λ_=>by go_simp) (λ_=>by simp[go_sem]) ?_;walk_nrm;refine EE.region_end ?_;have f4:∀{b:Ly},b<q.heap.size->b<w4.heap.size:=λh=>LY h l.size;refine X O b6 (.slice q9 N U) Y B V A Nx Fd Wg W N U w9 c9 p6 m8 ⟨?_,LN n4 n6.len,n6,λi j H=>(c3 i j H).imp id λh=>LN (LN a.le (LN f.le k.le)) h,?_,⟨?_,?_,?_,?_,λ_ _ _ _=>Mw _,Mw _⟩,b9,?_,?_,?_,?_,p9,?_,?_,I.new,?_,?_,?_,q2,?_,?_,?_,?_,?_,?_⟩
 ·-- wr
  refine g9.rely (by omega) ?_ (λi j H _=>s j (g9.lt i j H)) (λi j _ h=>absurd h (p3 i));rw[I.os,r.os,z.os,m4]
 ·-- own
  intro i j H;have hj:=g9.lt i j H;rw[g j (by omega)];exact h8 i j H
 ·-- keep
  intro j hj hn;have h1:w.heap.size<=q.heap.size:=LN a.le (LN f.le k.le);have h2:=l.size;rw[s j (by omega),l.old j (by omega) hn,k.old (LY hj (LN a.le f.le)),f.old (LY hj a.le),a.old hj]
 ·rw[I.os,r.os,z.os,m4,l.os,k.os,f.os,a.os]
 ·rw[I.output,r.output,z.output,r5,l.output,k.output,f.output,a.output]
 ·have h1:w.heap.size<=q.heap.size:=LN a.le (LN f.le k.le);have h2:=l.size;omega
 ·intro b o;have h1:w.heap.size<=q.heap.size:=LN a.le (LN f.le k.le);have h2:=l.size;exact g b (by omega)
 ·exact(s Y (f4 sY)).t s3
 ·exact(s B (f4 sB)).t t2
 ·exact(s V (f4 sV)).t s9
 ·have:=z.lt;rw[I.old (by omega),r.old (by omega)];exact z.new
 ·have:=r.lt;rw[I.old (by omega)];exact r.new
 ·have:=f4 sY;rw[g Y (by omega)];exact cY
 ·have:=f4 sB;rw[g B (by omega)];exact cB
 ·have:=f4 sV;rw[g V (by omega)];exact cV
 ·have:=z.lt;rw[a9 Nx (by omega),a8 Nx (by omega),k5];simp
 ·have:=r.lt;rw[a9 Fd (by omega),k0];simp
 ·rw[h9];simp
 ·have h1:w.heap.size<=q.heap.size:=LN a.le (LN f.le k.le);have h2:=l.size;rw[z.at_];omega
 ·have:=z.lt;rw[r.at_];omega
 ·have:=r.lt;rw[I.at_];omega
end
section
open Go Go.RowKit Go.Conc Go.ConcN Go.ConcN.Gen Go.Conc.Lib Go.ConcR.Gen Go.Co Go.Sim
def IM{U X:Type}{C:Cfg U X}{b:LD->Lt->Prop}{a m:Ly}{g:LD}{w:Lt}(h:Rq C.P LG (LR C.ty C.Wg) SH (λg w=>C.GM b m g w) a g w):C.GM b (a+m) g w :=
 Cfg.GM.trans (Cfg.GM.of h λ_ _ h=>h)
noncomputable def fo:Og:=inn (inn kH)
noncomputable def qY:Lx PW:=[.inLoop fo,.inBlock 0,.code jY]
def sw(x:Ph4):LA:=.func (.func 139) #[] (dJ x.Wg x.Nx x.A x.Fd x.Y x.V x.B)
def tmx(x:Ph4)(j:Ly)(a b c d e:LA):LM LA :=
 #[.agg #[.slice x.yb x.ps.length x.yc,x.lim],x.pv,x.vv,.pointer (Lq x.Y),.pointer (Lq x.B),.pointer (Lq x.V),.bool LH,.pointer (Lq x.A),.pointer (Lq x.Nx),.pointer (Lq x.Fd),.pointer (Lq x.Wg),.agg #[.slice x.yb x.ps.length x.yc,x.lim],x.vv,.slice x.ab x.N x.ac,.slice x.ab x.N x.ac,x.N,.int .i64 (min 4 x.N:Ly),j,a,b,c,d,e,LI]
def z18(j:Ly):LA:=if j=0 then LI else .bool LG
def z19(j:Ly):LA:=if j=0 then LI else .tuple #[]
def z20(x:Ph4)(j:Ly):LA:=if j=0 then LI else sw x
def z21(j:Ly):LA:=if j=0 then LI else .int .i64 j
def JD(j:Ly):z18 (j+1)=.bool LG:=by simp[z18]
def JC(j:Ly):z19 (j+1)=.tuple #[]:=by simp[z19]
def JB(x:Ph4)(j:Ly):z20 x (j+1)=sw x:=by simp[z20]
def JA(j:Ly):z21 (j+1)=.int .i64 (j+1:Ly):=by simp[z21]
noncomputable def xk(x:Ph4)(cs:Lx LW)(j:Ly):LD:=G ((Mo 85).at ⟨tmx x j (z18 j) (z19 j) (z20 x j) (z21 j) LI,[]⟩ (.code fo::qY)) cs
section
variable{x:Ph4}{cs:Lx LW}
def sT{b:LD->Lt->Prop}{m:Ly}{j:Ly}(d:j<4)(h:∀w,OO 166 x.Wg w->x.cfg.GM b m (xk x cs (j+1)) w)(w:Lt)(a:OO 166 x.Wg w) :x.cfg.GM b (7+m) (G ((Mo 85).at ⟨tmx x j (.bool LG) (.tuple #[]) (sw x) (z21 j) LI,[]⟩ (.inRegion (aW (sqB (inn (sqA (sqB (sqB fo)))))) []::.inBlock 1::.code (sqB (sqB (sqB fo)))::qY)) cs) w:=by
 refine IM ?_;simp only[xk,qY,fo,kH,jY,x85,PO,LQ,sqA,sqB,inn,aW,tmx] at h ⊢;have c:IntKind.i64.wrap ((j:LJ)+1)=j+1:=MI _ (by omega);u_c LK af a;u_c stepG_inBlock af a;u_reg af a;u_op af a;u_op af a;u_c LK af a;u_c stepG_inLoop af a;refine NY (λw₁ h₁=>?_);have e:=h w₁ (af a h₁);simp only[JD,JC,JB,JA,Int.natCast_add,Int.cast_ofNat_Int] at e;exact e
noncomputable def GJ(x:Ph4)(cs:Lx LW)(j:Ly):LD:=G ((Mo 85).at ⟨tmx x j (.bool LG) (.tuple #[]) (z20 x j) (z21 j) LI,[]⟩ (.inRegion (aW (sqA (inn (sqA (sqB (sqB fo)))))) []::.code (sqB (inn (sqA (sqB (sqB fo)))))::.inBlock 1::.code (sqB (sqB (sqB fo)))::qY)) cs
def Di{S:LD->Lt->Prop}{N j:Ly}(c:j<min 4 x.N)(h:∀w,OO 166 x.Wg w->x.cfg.GM (x.cfg.AtGoS S) N (GJ x cs j) w)(w:Lt)(a:OO 166 x.Wg w):x.cfg.GM (x.cfg.AtKdS S) 24 (xk x cs j) w:=by
 refine Cfg.add_spawn (N:=N) ?_;have b:decide ((j:LJ)<((min 4 x.N:Ly):LJ))=LG:=decide_eq_true (by omega);simp only[GJ,xk,qY,fo,kH,jY,x85,PO,LQ,sqA,sqB,inn,aW,tmx] at h ⊢;u_c Mb af a;u_reg af a;u_op af a;u_c LK af a;u_c Mb af a;u_cond LG af a;u_c Nr af a;u_c Mb af a;u_c Su af a;u_c Mb af a;u_reg af a;u_in af a;refine goes_call rfl rfl (by k_ne) rfl qd.f_add (nm_add link) rfl ⟨by u_nil,?_⟩
 walk_nrmf addFn
 exact addPos (L:=link) qd h _ a
noncomputable def Jd(x:Ph4)(cs:Lx LW)(j:Ly):LD:=G ((Mo 85).at ⟨tmx x j (.bool LG) (.tuple #[]) (sw x) (z21 j) LI,[]⟩ (.inRegion (aW (sqB (inn (sqA (sqB (sqB fo)))))) []::.inBlock 1::.code (sqB (sqB (sqB fo)))::qY)) cs
def FV{S:LD->Lt->Prop}{j:Ly}(h:∀w,OO 166 x.Wg w->S (Jd x cs j) w)(w:Lt)(e:OO 166 x.Wg w):x.cfg.GM (x.cfg.AtGoS S) (3+0) (GJ x cs j) w:=by
 refine Cfg.GM.of (C:=x.cfg) (Stop:=x.cfg.AtGoS S) ?_ (λ_ _ h=>h);simp only[Jd,GJ,qY,fo,kH,jY,x85,PO,LQ,sqA,sqB,inn,aW,tmx] at h ⊢;u_c LK af e;u_reg af e;u_op af e;refine NY (λw₁ h₁=>?_);replace e:=af e h₁;refine⟨rfl,_,born Ma (sI x.Wg x.Nx x.A x.Fd x.Y x.V x.B),?_,?_,h _ e⟩
 ·have l:=stepG_spawn (P:=Ma) (main:=LG) (w:=w₁) (w':=w₁) (b:=Mo 85) (cs:=cs) (i:=1) (rest:=[]) (d:=sI x.Wg x.Nx x.A x.Fd x.Y x.V x.B) (f:=.func 139) (c:=dJ x.Wg x.Nx x.A x.Fd x.Y x.V x.B)
   (ops:=(aW (sqB (inn (sqA (sqB (sqB fo))))))) (o:=(aW (sqB (inn (sqA (sqB (sqB fo))))))[1]'(by simp only[fo,kH,x85,PO,LQ,sqA,sqB,inn,aW];decide)) (a:=⟨tmx x j (.bool LG) (.tuple #[]) (sw x) (z21 j) LI,[]⟩) (k:=.inBlock 1::.code (sqB (sqB (sqB fo)))::qY) (by simp) (by simp only[fo,kH,x85,PO,LQ,sqA,sqB,inn,aW];rfl) (by k_ne) (by
    simp only[fo,kH,x85,PO,LQ,sqA,sqB,inn,aW,tmx,sw];go_simp;rfl) rfl
  refine Eq.trans ?_ (l.trans ?_)
  ·simp only[qY,fo,kH,jY,x85,PO,LQ,sqA,sqB,inn,aW,tmx,sw,dJ,pt];rfl
  ·have n:listed Ma (Mo 85).fn ⟨tmx x j (.bool LG) (.tuple #[]) (sw x) (z21 j) LI,[]⟩ ((aW (sqB (inn (sqA (sqB (sqB fo))))))[1]'(by simp only[fo,kH,x85,PO,LQ,sqA,sqB,inn,aW];decide)) w₁=#[]:=by
    unfold listed;have:((OZ (Act.eval ⟨tmx x j (.bool LG) (.tuple #[]) (sw x) (z21 j) LI,[]⟩) ((aW (sqB (inn (sqA (sqB (sqB fo))))))[1]'(by simp only[fo,kH,x85,PO,LQ,sqA,sqB,inn,aW];decide))).events Ma w₁ #[])=#[]:=by
     simp only[fo,kH,x85,PO,LQ,sqA,sqB,inn,aW,tmx,sw];simp[go_sem]
    rw[this,seen_none]
   rw[n];simp only[qY,fo,kH,jY,x85,PO,LQ,sqA,sqB,inn,aW,tmx];rfl
 ·rintro g ⟨W,p⟩;exact⟨⟨⟨e,W,p⟩,g.fz,g.size,g.os⟩,.inl ⟨rfl,λ_ h=>h⟩⟩
noncomputable def zq(x:Ph4):LW:=(Mo 85).at ⟨tmx x (min 4 x.N) (.bool LH) (z19 (min 4 x.N)) (z20 x (min 4 x.N)) (z21 (min 4 x.N)) LI,[]⟩ [.inRegion (aW (sqA jY)) [0],.code (sqB jY)]
noncomputable def GV(x:Ph4):LW:=(Mo 85).at ⟨tmx x (min 4 x.N) (.bool LH) (z19 (min 4 x.N)) (z20 x (min 4 x.N)) (z21 (min 4 x.N)) (.tuple #[]),[]⟩ [.inRegion (aW (sqA jY)) [],.code (sqB jY)]
def F0(x:Ph4)(cs:Lx LW)(g:LD)(w:Lt):Prop:=g=G (GV x) cs/\OO 166 x.Wg w
def sS(e:x.AnchW=nK link x.Wg (zq x) cs)(w:Lt)(a:OO 166 x.Wg w):x.cfg.GM x.cfg.AtKd 13 (xk x cs (min 4 x.N)) w:=by
 refine Cfg.kd_of ?_;have b:decide (((min 4 x.N:Ly):LJ)<((min 4 x.N:Ly):LJ))=LH:=decide_eq_false (by omega);have c:x.cfg.AnchW=nK link x.Wg (zq x) cs:=e;rw[c];generalize d:min 4 x.N=n at b;simp only[zq,xk,qY,fo,kH,jY,x85,PO,LQ,sqA,sqB,inn,aW,tmx,d];u_c Mb af a;u_reg af a;u_op af a;u_c LK af a;u_c Mb af a;u_cond LH af a;u_exit af a;u_c Mb af a;u_reg af a;u_in af a;refine goes_call rfl rfl (by k_ne) rfl qd.f_wait (nm_wait link) rfl ⟨by u_nil,?_⟩
 walk_nrmf waitFn
 exact Go.Co.waitStart (L:=link) qd _ a
def IJ(d:x.AnchW=nK link x.Wg (zq x) cs):∀r j,j+r=min 4 x.N->(∀w,OO 166 x.Wg w->x.cfg.Spawns r (xk x cs j) w)/\(0<j->∀w,OO 166 x.Wg w->x.cfg.Spawns r (Jd x cs (j - 1)) w):=by
 intro r;induction r with
 | zero=>
  intro j h;have e:j=min 4 x.N:=by omega
  subst e;refine⟨λw a=>⟨13,sS d w a⟩,λg w a=>⟨7+13,?_⟩⟩;have e:min 4 x.N - 1+1=min 4 x.N:=by omega
  exact sT (j:=min 4 x.N - 1) (by omega) (λw a=>by rw[e];exact sS d w a) w a
 | succ r f=>
  intro j h;have b:=(f (j+1) (by omega)).2 (by omega);rw[Nat.add_sub_cancel] at b;have c:∀w,OO 166 x.Wg w->x.cfg.GM (x.cfg.AtKdS (x.cfg.Spawns r)) 24 (xk x cs j) w:=Di (N:=3+0) (by omega) (FV b);refine⟨λw a=>⟨24,c w a⟩,λg w a=>⟨7+24,?_⟩⟩;obtain⟨k,rfl⟩:∃k,j=k+1:=⟨j - 1,by omega⟩;exact sT (by omega) c w a
def Fv(a:x.AnchW=nK link x.Wg (zq x) cs)(g:LD)(w:Lt)(h:x.AnchW g w):g.status=.running:=by
 rw[a] at h;obtain⟨T,rfl,_⟩:=h;rfl
def Hs(b:x.AnchW=nK link x.Wg (zq x) cs)(a:x.Fin=λg w=>Rq Ma LG (LR 166 x.Wg) SH (F0 x cs) 40 g w)(g:LD)(w:Lt)(h:x.AnchW g w):∃m,x.cfg.GM x.cfg.AtW1 m g w:=by
 rw[b] at h;have f:=Go.Co.waitRound (L:=link) (Fin:=F0 x cs) qd (b₀:=Mo 85) (a₀:=⟨tmx x (min 4 x.N) (.bool LH) (z19 (min 4 x.N)) (z20 x (min 4 x.N)) (z21 (min 4 x.N)) LI,[]⟩) (ops₀:=aW (sqA jY)) (i₀:=0) (rest₀:=[]) (k₀:=[.code (sqB jY)]) (cs:=cs) ?_ g w h
 ·refine⟨30,Cfg.GM.of f λg w hm=>?_⟩;refine Cfg.w1_of (C:=x.cfg) (F0:=F0 x cs) (λg w d=>?_) ?_
  ·show x.Fin g w;rw[a];exact d
  ·have e:x.cfg.AnchW=x.AnchW:=rfl;rw[e,b];exact hm
 ·intro w c;refine⟨?_,c⟩;simp only[GV,jY,x85,PO,LQ,sqA,sqB,inn,aW,tmx];rfl
end
end
end Go.Proofs.YtidgnkmjgioapaaGreat
section
namespace Go.Co
open Go.Conc Go.ConcN Go.Sim
section
variable{P:LV}{Post:LA->Lt->Prop}{cl:Ly->Cl}{w:Lt}
def EE.of_goes{R:Lt->Lt->Prop}(c:∀w d,R w (w.at d)){b:LD->Lt->Prop}(f:∀g d,b g (w.at d)->EE P Post cl g w):∀{n:Ly} {g:LD} {d:Ly},Rq P LG R SH b n g (w.at d)->EE P Post cl g w:=by
 intro n;induction n with
 | zero=>exact λ{g d} h=>f g d (h _ (c _ _))
 | succ n i=>
  intro g d h;rcases h with h | ⟨k,h⟩
  ·exact f g d (h _ (c _ _))
  ·refine λs=>E.step k λa=>?_;have⟨l,q,r,e,⟨p,o⟩,j⟩:=goes_elim (h (w.at a) (c (w.at d) a));subst p;subst o;exact⟨l,w.at a,#[],e,LC _,by simp,i j a⟩
def EE.enterB{b:LW}{a:ON}{k:Lx PW}{cs:Lx LW}{d:LM NB}{i:Ly}{e:Lx Ly}{o:NB}{f:Nh}{g:Func}{c:Og}{args:LM MS}{l:LM LZ}(p:d[i]?=Lq o)(n:MA o (Od d a.tmps)=LG)(q:b.kind≠.early)(j:o.op=.call { callee:=.value (.func f),args,argTypes:=l })(hf:P.funcs[f]?=Lq g)(hname:(g.name == "runtime.NumGoroutine")=LH)(hb:g.body=Lq c)(h:EE P Post cl (G ((base f).at { tmps:=args.map a.eval++MR (g.ntmps - (args.map a.eval).size) LI,defers:=[] } [.code c]) (b.at a (.inRegion d (i::e)::k)::cs)) w) :EE P Post cl (G (b.at a (.inRegion d (i::e)::k)) cs) w :=
 EE.enter p n q j hf hname (by rw[hb];rfl) (by rw[enter_at _ hf hb];exact h)
def EN{A o a:Ly}(h:cl A=.sync)(f:A<a):EvG cl a 0 ⟨.cell ⟨A,o,Lw⟩,LH,LG⟩/\dH ⟨.cell ⟨A,o,Lw⟩,LH,LG⟩:=by
 refine⟨λx d b e=>?_,by simp[dH],by simp,by simp⟩;have c:x=⟨.cell ⟨A,o,Lw⟩,LH,.atomic⟩:=by simp[Ny,Oh] at d;exact d.symm
 subst c;simp only[blk,MM] at e;subst e;exact⟨f,.inr (.inr ⟨h,by simp,by simp⟩)⟩
end
end Go.Co
namespace Go.Proofs.YtidgnkmjgioapaaGreat
open Go Go.RowKit Go.Conc Go.ConcN Go.ConcN.Gen Go.Conc.Lib Go.ConcR.Gen Go.Co Go.Sim
section
variable{x:Ph4}{cs:Lx LW}
def after{Post:LA->Lt->Prop}{cl:Ly->Cl}{w:Lt}{v:MC}(f:w.heap[x.Fd]?=Lq (.cells #[.int .u32 (if v then 1 else 0)] 161 (0,0)))(i:cl x.Fd=.sync)(j:∀b,w.heap.size<=b->cl b=.mine 0)(c:∀t g,t.getD 6 LI=.bool v->EE Ma Post cl (G { (Mo 85).at ⟨t,[]⟩ g with mode:=.returning } cs) w):EE Ma Post cl (G (GV x) cs) w:=by
 have h:x.Fd<w.heap.size:=(Lz.1 f).1;have a:∀d,(w.at d).cell? x.Fd=Lq (.int .u32 (if v then 1 else 0)):=λd=>ly f rfl;generalize l:min 4 x.N=n;simp only[GV,jY,x85,PO,LQ,sqA,sqB,inn,aW,tmx,l];refine EE.region_end ?_;refine EE.seq ?_;refine EE.region ?_;simp only[Mt,LX,Mj,Ms,Mn,Mr,MY];refine EE.enterB rfl rfl (by k_ne) rfl SO (by kernel_rfl) rfl ?_
 walk_nrmf Sz
 refine EE.seq ?_;refine EE.region ?_;simp only[Mt,LX,Mj,Ms,Mn,Mr,MY];refine EE.value (.bool LH) rfl rfl (by k_ne) (λ_=>by go_simp) (λ_=>by simp[go_sem]) ?_;walk_nrm;refine EE.region_end ?_;refine EE.seq ?_;refine EE.region ?_;simp only[Mt,LX,Mj,Ms,Mn,Mr,MY];refine EE.value (.pointer (Lq x.Fd)) rfl rfl (by k_ne) (λ_=>by go_simp) (λ_=>by simp[go_sem]) ?_;walk_nrm;refine EE.value (.pointer (Lq x.Fd)) rfl rfl (by k_ne) (λ_=>by go_simp) (λ_=>by simp[go_sem]) ?_;walk_nrm;refine EE.value (.pointer (Lq x.Fd)) rfl rfl (by k_ne) (λ_=>by go_simp) (λ_=>by simp[go_sem]) ?_;walk_nrm;refine EE.raw w cl rfl (λd=>⟨_,QA rfl rfl (by k_ne) rfl XT (by kernel_rfl) (by kernel_rfl) (by kernel_rfl) .u32 (by kernel_rfl) rfl (a d),?_⟩) (LC _) (λ_ _=>rfl) j ?_
 ·intro e k;simp at k;subst k;exact EN i h
 walk_nrm;clear a f;cases v with
 | false=>
  simp only[if_false,Mx];refine EE.value (.bool LH) rfl rfl (by k_ne) (λ_=>by go_simp) (λ_=>by simp[go_sem]) ?_;walk_nrm;refine EE.value (.bool LH) rfl rfl (by k_ne) (λ_=>by go_simp) (λ_=>by simp[go_sem]) ?_;walk_nrm;refine EE.region_end ?_;refine EE.retS ?_;refine EE.leave1 rfl rfl SO rfl ?_;walk_nrm;refine EE.value (.bool LH) rfl rfl (by k_ne) (λ_=>by go_simp) (λ_=>by simp[go_sem]) ?_;walk_nrm;refine EE.region_end ?_;refine EE.retS ?_;exact c _ _ rfl
 | true=>
  simp only[if_true];refine EE.value (.bool LG) rfl rfl (by k_ne) (λ_=>by go_simp) (λ_=>by simp[go_sem]) ?_;walk_nrm;refine EE.value (.bool LG) rfl rfl (by k_ne) (λ_=>by go_simp) (λ_=>by simp[go_sem]) ?_;walk_nrm;refine EE.region_end ?_;refine EE.retS ?_;refine EE.leave1 rfl rfl SO rfl ?_;walk_nrm;refine EE.value (.bool LG) rfl rfl (by k_ne) (λ_=>by go_simp) (λ_=>by simp[go_sem]) ?_;walk_nrm;refine EE.region_end ?_;refine EE.retS ?_;exact c _ _ rfl
end
end Go.Proofs.YtidgnkmjgioapaaGreat
end
section
namespace Go.Proofs.YtidgnkmjgioapaaGreat
open Go Go.RowKit Go.Conc Go.ConcN Go.ConcN.Gen Go.Conc.Lib Go.ConcR.Gen Go.Co Go.Sim
namespace Ph4
noncomputable def on(x:Ph4)(a:Lx LW):Ph4:={ x with Fin:=λg w=>Rq Ma LG (LR 166 x.Wg) SH (F0 x a) 40 g w,AnchW:=nK link x.Wg (zq x) a }
def Ke{a:LZ}{e:Ly}(w:Lt)(d:Ly):LR a e w (w.at d):=λ⟨b,c,h⟩=>⟨b,c,h⟩
def all{x:Ph4}{cs:Lx LW}(o:(x.on cs).Ok)(c:∀t a w (v:MC),(v=LG↔∃i,i<x.N/\x.bad i=LG)->(x.on cs).cfg.Ph w->t.getD 6 LI=.bool v->EE Ma x.Post (flat x.clA) (G { (Mo 85).at ⟨t,[]⟩ a with mode:=.returning } cs) w):(x.on cs).cfg.Ok :=
 o.cfg (Fv (cs:=cs) rfl) (Hs (cs:=cs) rfl rfl) λW ls g w p hJ k l f=>by
  have e:Rq Ma LG (LR 166 x.Wg) SH (F0 x cs) 40 g (w.at w.drawn):=p;refine(EE.of_goes (λw d=>Ke w d) (λg d j=>?_) e) w.drawn;obtain⟨rfl,_⟩:=j;refine after (v:=W.2) l.2 ?_ (λb n=>?_) λt a h=>c t a w W.2 (J.final hJ k) f h
  ·have:=o.sync x.Fd (by simp[jks,on]);unfold flat;rw[show(x.on cs).clA x.Fd=.sync from this]
  ·have:=o.cla0 b (LN f.size n);unfold flat;rw[show(x.on cs).clA b=.mine 0 from this]
end Ph4
def uy(n a:Ly)(d:Ly->Cl)(b:Ly):Cl:=match d b with | .mine 0=>if b<n then .ro a else .mine 0 | c=>c
def pS{n a b:Ly}{c:Ly->Cl}(h:c b=.mine 0)(d:b<n):uy n a c b=.ro a:=by unfold uy;rw[h];simp[d]
def qD{n c b:Ly}{a:Ly->Cl}(h:a b=.mine 0)(d:n<=b):uy n c a b=.mine 0:=by unfold uy;rw[h];simp;omega
def pR{n d b:Ly}{a:Ly->Cl}(h:a b≠.mine 0):uy n d a b=a b:=by
 unfold uy;cases hc:a b with
 | mine g=>
  cases g with
  | zero=>exact absurd hc h
  | succ g=>rfl
 | ro c=>rfl
 | sync=>rfl
def jz(Y V B A:Ly)(a:Lx Ly):Lx Ly:=0::Y::V::B::A::a
def JV{M:Ly}{Post:LA->Lt->Prop}[JunkSet]{w0:Lt}{d9:Ly->Cl}{ρ0:Ren}{yb R Q ab:LU MN}{ps:Lx Par}{yc pn pc vn vc N ac:Ly}{lim:LJ}{Y B V A Nx Fd Wg:Ly}{O:Ren}{wq:Lt}{w:Lt}{D:Ly->Cl}{cs:Lx LW}{l wl:Lx LJ}{c:Ly->Ly->LJ}{s:Lx Ly}(j:At5 Ya M w0 d9 ρ0 yb R Q ab ps.length yc pn pc vn vc N ac lim Y B V A Nx Fd Wg O wq w D)(b0:∀b∈s,D b=.mine 0/\∃cs e f,w.heap[b]?=Lq (.cells cs e f)/\∀(i:Ly) v,cs[i]?=Lq v->∃k m,v=.int k m)(h0:∃cs e f,w.heap[0]?=Lq (.cells cs e f)/\∀(i:Ly) v,cs[i]?=Lq v->∃k m,v=.int k m)(d7:D 0=.mine 0)(T:∀a,yb=Lq a->a.block∈s)(Z:∀a,R=Lq a->a.block∈s)(W:∀a,Q=Lq a->a.block∈s)(b6:∀a,ab=Lq a->a.block∈s)(pars:aC 0 w.heap.size w (.slice yb ps.length yc) ps)(ints:ai 0 w.heap.size w (.slice Q vn vc) wl)(intp:ai 0 w.heap.size w (.slice R pn pc) l)(cas:iA 0 w.heap.size w (.slice ab N ac) N c)(n5:ps.length<=5)(bmn:∀i,0<=pre Par.mn ps ps.length i/\pre Par.mn ps ps.length i<=1000)(bmx:∀i,0<=pre Par.mx ps ps.length i/\pre Par.mx ps ps.length i<=1000)(bc:∀i d,0<=c i d/\c i d<=1000)(hl:∀y∈l,0<=y/\y<ps.length)(ll:l.length<=1000)(hwl:∀y∈wl,0<=y/\y<5)(hN:N<=900000)(a8:∀t F L cl6 (v:MC),(v=LG↔∃i,i<N/\(aL ps (ovr (c i) (pre Par.mn ps ps.length) wl wl.length) l && !aL ps (ovr (c i) (pre Par.mx ps ps.length) wl wl.length) l)=LG)->(∀b,b<w.heap.size->D b=.mine 0->L.heap[b]?=w.heap[b]?)->w.heap.size<=L.heap.size->L.os=w.os->L.output=w.output ->(∀b,D b=.mine 0->cl6 b=.mine 0)->(∀b,L.heap.size<=b->cl6 b=.mine 0)->t.getD 6 LI=.bool v->EE Ma Post cl6 (G { (Mo 85).at ⟨t,[]⟩ F with mode:=.returning } cs) L) :EE Ma Post D (G ((Mo 85).at ⟨Iy yb R Q ab ps.length yc pn pc vn vc N ac lim Y B V A Nx Fd Wg 0 LI undef undef undef,[]⟩ [.code kH,.code jY]) cs) w:=by
 have e1:kH=.block 0 (.loop fo):=by kernel_rfl
 rw[e1];refine EE.block ?_;refine EE.loop ?_;intro d;refine E.crowd (U:=Ly × MC) (X:=Lam) λlo hlo=>?_
 let x:Ph4:={ W1:=w.at d,clA:=uy w.heap.size lo D,lo:=lo,Wg:=Wg,Nx:=Nx,A:=A,Fd:=Fd,Y:=Y,V:=V,B:=B,ps:=ps,lim:=lim,l:=l,wl:=wl,N:=N,c:=c,yb:=yb,yc:=yc,ab:=ab,ac:=ac,pv:=.slice R pn pc,vv:=.slice Q vn vc,nds:=jz Y V B A s,Post:=Post,Fin:=λ_ _=>PC,AnchW:=λ_ _=>PC }
 have aH:∀{b:Ly} {o:SQ},w.heap[b]?=Lq o->b<w.heap.size:=λh=>(Lz.1 h).1;have P:∀b∈jz Y V B A s,D b=.mine 0/\b<w.heap.size:=by
  intro b n;simp only[jz,MK] at n;obtain⟨d8,e0,f0,h0,a7⟩:=h0;rcases n with rfl | rfl | rfl | rfl | rfl | n
  ·exact⟨d7,aH h0⟩
  ·exact⟨j.cY,aH j.hY⟩
  ·exact⟨j.cV,aH j.hV⟩
  ·exact⟨j.cB,aH j.hB⟩
  ·exact⟨j.cA,aH j.hA⟩
  ·have⟨k1,cs,e,f,k2,_⟩:=b0 b n;exact⟨k1,aH k2⟩
 have b7:∀b∈jz Y V B A s,x.clA b=.ro lo:=λb n=>pS (P b n).1 (P b n).2;have S:∀b∈[Wg,Nx,Fd],D b=.sync/\b<w.heap.size:=by
  intro b n;simp only[MK,NQ,or_false] at n;rcases n with rfl | rfl | rfl
  ·exact⟨j.cWg,aH j.hWg⟩
  ·exact⟨j.cNx,aH j.hNx⟩
  ·exact⟨j.cFd,aH j.hFd⟩
 have p:∀{a:MN},a.block∈s->a.block∈jz Y V B A s:=λh=>by simp[jz,h]
 have e5:∀b∈jz Y V B A s,BR x.r0 b b:=λb n=>po.2 ⟨(P b n).2,rfl,.inl n⟩;have H:∀(q:LU MN) (m k:Ly),(∀a,q=Lq a->a.block∈s)->@VR x.js x.r0 (.slice q m k) (.slice q m k):=λq m k hq=>by
  cases q with
  | none=>exact @VR.sliceNil x.js _ m k
  | some a=>exact @VR.slice x.js _ _ _ a.off a.spot m k (e5 _ (p (hq a rfl)))
 have one:∀(v:LA),@VR x.js x.r0 v v->∀(i:Ly) (u:LA),(#[v]:LM LA)[i]?=Lq u->@VR x.js x.r0 u u:=λv z i u hu=>by
  cases i with
  | zero=>simp at hu;rw[<- hu];exact z
  | succ i=>simp at hu
 have o:(x.on cs).Ok:={
  hlo:=hlo
  hY:=j.hY
  hV:=j.hV
  hB:=j.hB
  hA:=j.hA
  pars:=pars
  ints:=ints
  intp:=intp
  cas:=cas
  n5:=n5
  bmn:=bmn
  bmx:=bmx
  bc:=bc
  hl:=hl
  ll:=ll
  hwl:=hwl
  hN:=hN
  jlt:=λb n=>(S b n).2
  ne1:=by have:=j.l2;show Nx≠Fd;omega
  ne2:=by have:=j.l2;have:=j.l3;show Wg≠Nx;omega
  ne3:=by have:=j.l3;show Wg≠Fd;omega
  sync:=λb n=>by
   have h1:=(S b n).1;exact(pR (by rw[h1];simp)).t h1
  nro:=b7
  nok:=by
   intro b n;have r:b∈jz Y V B A s:=n;simp only[jz,MK] at r;obtain⟨d8,e0,f0,h0,a7⟩:=h0;rcases r with rfl | rfl | rfl | rfl | rfl | r
   ·exact⟨_,_,_,h0,λi v z=>by obtain⟨k,m,rfl⟩:=a7 i v z;exact @VR.int (x.on cs).js _ k m⟩
   ·refine⟨_,_,_,j.hY,λi v z=>?_⟩;have hi:i=0\/i=1:=by
     have:=(Lz.1 z).1;simp at this;omega
    rcases hi with rfl | rfl
    ·simp at z;rw[<- z];exact H _ _ _ T
    ·simp at z;rw[<- z];exact @VR.int x.js _ _ _
   ·exact⟨_,_,_,j.hV,one _ (H _ _ _ W)⟩
   ·exact⟨_,_,_,j.hB,one _ (H _ _ _ Z)⟩
   ·exact⟨_,_,_,j.hA,one _ (H _ _ _ b6)⟩
   ·have⟨k1,cs1,e,f,k2,k3⟩:=b0 b r;refine⟨_,_,_,k2,λi v z=>?_⟩;obtain⟨k,m,rfl⟩:=k3 i v z;exact @VR.int x.js _ _ _
  n0:=by show 0∈jz Y V B A s;simp[jz]
  nY:=by show Y∈jz Y V B A s;simp[jz]
  nV:=by show V∈jz Y V B A s;simp[jz]
  nB:=by show B∈jz Y V B A s;simp[jz]
  nA:=by show A∈jz Y V B A s;simp[jz]
  nyb:=λq oo n' c' e _=>by cases e;exact p (a:=⟨q,oo,Lw⟩) (T _ rfl)
  nvv:=λq oo n' c' e _=>by cases e;exact p (a:=⟨q,oo,Lw⟩) (W _ rfl)
  npv:=λq oo n' c' e _=>by cases e;exact p (a:=⟨q,oo,Lw⟩) (Z _ rfl)
  nab:=λq oo n' c' e _=>by cases e;exact p (a:=⟨q,oo,Lw⟩) (b6 _ rfl)
  cla0:=λb n=>by
   have r:w.heap.size<=b:=n;exact qD (j.c0 b r) r }
 refine⟨(x.on cs).cfg,rfl,rfl,rfl,rfl,Ph4.all o ?_,λb n=>?_,?_,j.hWg,(0,LH),λ_=>.st,⟨j.hNx,j.hFd⟩,?_⟩
 ·intro t F L v z hp ht;refine a8 t F L _ v z (λb n I=>?_) hp.size hp.os hp.output (λb n=>?_) (λb n=>?_) ht
  ·exact hp.fz b ⟨n,pS I n⟩
  ·show flat (uy w.heap.size lo D) b=_;unfold flat;rcases NK b w.heap.size with C | C
   ·rw[pS n C]
   ·rw[qD n C]
  ·show flat (uy w.heap.size lo D) b=_;have C:w.heap.size<=b:=LN hp.size n;unfold flat;rw[qD (j.c0 b C) C]
 ·have r:b<w.heap.size:=n;cases I:D b with
  | mine g=>
   cases g with
   | zero=>exact .inr ⟨rfl,pS I r⟩
   | succ g=>exact .inl ((pR (by rw[I];simp)).t I)
  | ro e9=>exact .inl ((pR (by rw[I];simp)).t I)
  | sync=>exact .inl ((pR (by rw[I];simp)).t I)
 ·have d6:=(IJ (x:=x.on cs) (cs:=cs) rfl (min 4 N) 0 (by show 0+min 4 N=min 4 N;omega)).1 (w.at d) ⟨_,_,j.hWg⟩;exact d6
 ·exact⟨Mw _,λh=>(by cases h),λ_ i _ h=>absurd h (Nat.not_lt_zero i),λk hk=>absurd hk (Nat.not_lt_zero k)⟩
end Go.Proofs.YtidgnkmjgioapaaGreat
end
namespace Go.Proofs.YtidgnkmjgioapaaGreat
section
open Go Go.RowKit Go.Conc Go.ConcN Go.ConcN.Gen Go.Conc.Lib Go.ConcR.Gen Go.Co Go.Sim
def bq(w:Lt)(B:Ly):Prop:=∃a e f,w.heap[B]?=Lq (.cells a e f)/\∀(i:Ly) v,a[i]?=Lq v->∃k m,v=.int k m
def bh(w:Lt)(v:LA):Prop:=∀a n c,v=.slice (Lq a) n c->bq w a.block
section
variable[JunkSet]{Q:LV}{Z:Ren}{wq w:Lt}{M:Ly}
def GG{b a:LM LA}(h:AsR Z b a)(g:∀(i:Ly) v,b[i]?=Lq v->∃k m,v=.int k m):a=b:=by
 refine Array.ext h.1.symm λi j d=>?_;have⟨k,m,e⟩:=g i b[i] (Ml d);have c:=h.2 i _ _ (Ml d) (Ml j);rw[e] at c ⊢;generalize a[i]=y at c;cases c;rfl
def CM(g:WR Q M Z wq w)(a:∀i,¬ JunkSet.jk i){i j:Ly}(b:BR Z i j){c:LM LA}{e:LZ}{f:Ly × Ly}(h:wq.heap[i]?=Lq (.cells c e f))(l:∀(i:Ly) v,c[i]?=Lq v->∃k m,v=.int k m):∃q,w.heap[j]?=Lq (.cells c e q):=by
 rcases g.obj i j _ b h with⟨p,_⟩ | ⟨_,r,d,o⟩
 ·exact absurd p (a i)
 ·cases o with
  | cells e n _=>
   rw[GG n l] at d;exact⟨_,d⟩
def CK(d:WR Q M Z wq w)(a:∀i,¬ JunkSet.jk i){i j:Ly}(b:BR Z i j)(h:bq wq i):bq w j:=by
 obtain⟨n,e,f,k,c⟩:=h;have⟨l,g⟩:=CM d a b k c;exact⟨n,e,l,g,c⟩
def yn(l:WR Q M Z wq w)(a:∀i,¬ JunkSet.jk i){i j:Ly}(b:BR Z i j)(n:bq wq i){k:LM LA}{e:LZ}{f:Ly × Ly}(h:wq.heap[i]?=Lq (.cells k e f)):∃c,w.heap[j]?=Lq (.cells k e c)/\j<w.heap.size:=by
 obtain⟨p,q,f1,g,o⟩:=n;rw[h] at g;cases g;have⟨c,d⟩:=CM l a b h o;exact⟨c,d,(Lz.1 d).1⟩
def zQ(t:WR Q M Z wq w)(d:∀i,¬ JunkSet.jk i){s x:Ly}{v k:LA}{l:Lx LJ}(h:ai s x wq v l)(y:bh wq v)(u:VR Z v k):ai 0 w.heap.size w k l:=by
 obtain⟨base,b,rfl,q,p⟩:=h;cases u with
 | sliceNil=>exact⟨Lw,b,rfl,q,λa=>by have⟨B,o,r,F,e,_⟩:=p a;cases e⟩
 | @slice i j c n _ _ g=>
  refine⟨_,b,rfl,q,λa=>?_⟩;have⟨B,o,r,F,e,_,_,D,C⟩:=p a;cases e;have⟨G,A,z⟩:=yn t d g (y _ _ _ rfl) D;exact⟨j,c,r,G,rfl,Mw _,z,A,C⟩
def FN(t:WR Q M Z wq w)(d:∀i,¬ JunkSet.jk i){s x:Ly}{v k:LA}{l:Lx Par}(h:aC s x wq v l)(y:bh wq v)(u:VR Z v k):aC 0 w.heap.size w k l:=by
 obtain⟨base,b,rfl,q,p⟩:=h;cases u with
 | sliceNil=>exact⟨Lw,b,rfl,q,λa=>by have⟨B,o,r,F,e,_⟩:=p a;cases e⟩
 | @slice i j c n _ _ g=>
  refine⟨_,b,rfl,q,λa=>?_⟩;have⟨B,o,r,F,e,_,_,D,C⟩:=p a;cases e;have⟨G,A,z⟩:=yn t d g (y _ _ _ rfl) D;exact⟨j,c,r,G,rfl,Mw _,z,A,C⟩
def CL(x:WR Q M Z wq w)(g:∀i,¬ JunkSet.jk i){u z:Ly}{v l:LA}{n:Ly}{c:Ly->Ly->LJ}(h:iA u z wq v n c)(A:bh wq v)(y:VR Z v l):iA 0 w.heap.size w l n c:=by
 obtain⟨base,b,rfl,s,r⟩:=h;cases y with
 | sliceNil=>exact⟨Lw,b,rfl,s,λa=>by have⟨B,o,t,p,H,e,_⟩:=r a;cases e⟩
 | @slice i j d q _ _ k=>
  refine⟨_,b,rfl,s,λa=>?_⟩;have⟨B,o,t,p,H,e,_,_,G,F⟩:=r a;cases e;have⟨I,D,C⟩:=yn x g k (A _ _ _ rfl) G;exact⟨j,d,t,p,I,rfl,Mw _,C,D,F⟩
def pO{h:Ly->Cl}(k:WR Q M Z wq w)(d:∀i,¬ JunkSet.jk i)(o:ie h Z){q g:LU MN}{n c:Ly}(p:bh wq (.slice g n c))(l:VR Z (.slice g n c) (.slice q n c)):∀b,q=Lq b->h b.block=.mine 0/\bq w b.block:=by
 rintro b rfl;cases l with
 | slice j e _ _ a=>exact⟨o _ _ a,CK k d a (p _ _ _ rfl)⟩
def CF{v:LA}(h:VR Z LI v):v=LI:=by
 unfold LI at h;cases h with
 | tuple a _=>
  have:=QN (by simpa using a.symm);rw[this];rfl
def Ju{q:LU MN}{n c:Ly}{m:LJ}{y:LA}(h:VR Z (.agg #[.slice q n c,m]) y):∃a,y=.agg #[.slice a n c,m]/\VR Z (.slice q n c) (.slice a n c):=by
 cases h with
 | @agg _ b k e=>
  have l:b.size=2:=by simpa using k.symm
  have d:=e 0 (.slice q n c) _ rfl (Ml (by omega));have g:=e 1 (.int .i64 m) _ rfl (Ml (by omega));obtain⟨a,j⟩:∃a,b[0]'(by omega)=.slice a n c:=by
   generalize b[0]'(by omega)=z at d;cases d<;>exact⟨_,rfl⟩
  have o:b[1]'(by omega)=.int .i64 m:=by
   generalize b[1]'(by omega)=z at g;cases g;rfl
  rw[j] at d;refine⟨a,?_,d⟩
  congr 1
  refine Array.ext (by simp[l]) λi r p=>?_;obtain rfl | rfl:i=0\/i=1:=by omega
  ·exact j
  ·exact o
def JK{d c b:LA}{a:LM LA}{n:Ly}(h:AsR Z (#[d,c,b]++MR n LI) a):∃o l k,a=#[o,l,k]++MR n LI/\VR Z d o/\VR Z c l/\VR Z b k:=by
 have q:a.size=3+n:=by rw[<- h.1];simp
 have g:∀i (j:i<a.size) x,(#[d,c,b]++MR n LI:LM LA)[i]?=Lq x->VR Z x a[i]:=λi j x p=>h.2 i x _ p (Ml j);refine⟨a[0]'(by omega),a[1]'(by omega),a[2]'(by omega),?_,g 0 (by omega) d (by simp[Pu]),g 1 (by omega) c (by simp[Pu]),g 2 (by omega) b (by simp[Pu])⟩;refine Array.ext (by simp[q]) λi s t=>?_;by_cases j:i<3
 ·obtain rfl | rfl | rfl:i=0\/i=1\/i=2:=by omega
  all_goals simp[UW]
 ·have r:i - 3<n:=by omega
  have e:(#[d,c,b]++MR n LI:LM LA)[i]?=Lq LI:=by
   rw[Array.getElem?_append_right (by simp;omega),Array.getElem?_replicate];simp[r]
  have:=CF (g i s LI e);rw[this];simp[UW,j]
end
def Cas(N:Ly)(c:Ly->Ly->LJ)(wq:Lt)(v:LA)(u:Lt):Prop:=iA 0 u.heap.size u v N c/\bh u v/\(wq.tp u.tape).gb u Lw
def Av:Tryz.f85.results=#[.tmp 6]:=rfl
def EG:Tryz.f85.ntmps=24:=rfl
section
variable[J:JunkSet]{f:Nh}{Post:LA->Lt->Prop}{W:Lt}
def EL.doubtful(D:Two Ya Ma)(l9:JunkSet.okf 137)(x:∀i,¬ JunkSet.jk i)(m4:Ya.inits.idxOf? f=Lw)(m7:∃g,Ya.funcs[f]?=Lq g/\Tryz.prog.funcs[f]?=Lq g){b:LW}{a:ON}{k:Lx PW}{cs:Lx LW}{wq:Lt}(hb:Bot f cs)(hs:Ya.funcs[b.fn]?=Tryz.prog.funcs[b.fn]?){X:LM NB}{i:Ly}{b6:Lx Ly}{o:NB}(ho:X[i]?=Lq o)(hw:MA o (Od X a.tmps)=LG){L b9 U:LU MN}{r:Lx Par}{l F:Lx LJ}{yc pc vc N:Ly}{c:Ly->Ly->LJ}{a6:LJ}(g5:∀T,(OZ a.eval o).run Ya (wq.tp T)=.ok (.enter 85 #[.agg #[.slice L r.length yc,a6],.slice b9 l.length pc,.slice U F.length vc]) (wq.tp T))(e4:aC 0 wq.heap.size wq (.slice L r.length yc) r)(yi:bh wq (.slice L r.length yc))(e6:ai 0 wq.heap.size wq (.slice b9 l.length pc) l)(pi:bh wq (.slice b9 l.length pc))(e5:ai 0 wq.heap.size wq (.slice U F.length vc) F)(vi:bh wq (.slice U F.length vc))(h0:bq wq 0)(n5:r.length<=5)(p4:∀i,0<=pre Par.mn r r.length i/\pre Par.mn r r.length i<=1000)(p3:∀i,0<=pre Par.mx r r.length i/\pre Par.mx r r.length i<=1000)(bc:∀i d,0<=c i d/\c i d<=1000)(hl:∀y∈l,0<=y/\y<r.length)(ll:l.length<=1000)(l7:∀y∈F,0<=y/\y<5)(hN:N<=900000)(k0:∀T,MH Ya 137 #[.agg #[.slice L r.length yc,a6],.slice U F.length vc] (wq.tp T) λe u=>∃v,e=.returned v/\Cas N c wq v u)(h9:∀u (v:MC),(v=LG↔∃i,i<N/\(aL r (ovr (c i) (pre Par.mn r r.length) F F.length) l && !aL r (ovr (c i) (pre Par.mx r r.length) F F.length) l)=LG)->(wq.tp u.tape).gb u Lw ->EL Ya Ma f Post W (G ((b.at a (.inRegion X (i::b6)::k)).finish (.bool v)) cs) u) :EL Ya Ma f Post W (G (b.at a (.inRegion X (i::b6)::k)) cs) wq:=by
 obtain⟨fq,m8,m3⟩:∃fq,Ya.funcs[85]?=Lq fq/\fq.ntmps=Tryz.f85.ntmps:=by
  have h1:(Ya.funcs[85]?).map (·.ntmps)=Lq 24:=by kernel_rfl
  cases hq:Ya.funcs[85]? with
  | none=>rw[hq] at h1;cases h1
  | some fq=>rw[hq] at h1;exact⟨fq,rfl,by simpa using h1⟩
 refine EL.enterK D hb hs ho hw g5 KU m8 Tryz.func85 m3 (c0:=Tryz.f85.body.getD .skip) (by kernel_rfl) ?_;intro Z tp c' q0 R w cl m9 z;rw[EG] at z;obtain⟨y0,y1,y2,rfl,v0,v1,v2⟩:=JK (n:=21) (by simpa using z.tm);obtain⟨yb,rfl,vy⟩:∃yb,y0=.agg #[.slice yb r.length yc,a6]/\VR Z (.slice L r.length yc) (.slice yb r.length yc):=Ju v0;obtain⟨pb,rfl⟩:∃pb,y1=.slice pb l.length pc:=by cases v1<;>exact⟨_,rfl⟩
 obtain⟨vb,rfl⟩:∃vb,y2=.slice vb F.length vc:=by cases v2<;>exact⟨_,rfl⟩
 have c8:EE Ma Post cl (G ((Mo 85).at ⟨#[.agg #[.slice yb r.length yc,a6],.slice pb l.length pc,.slice vb F.length vc]++MR 21 LI,[]⟩ [.code (Tryz.f85.body.getD .skip)]) (c'::R)) w:=by
  refine JF D l9 (Rc:=Cas N c wq) z.c0 z.ln z.wr z.gl z.own v0 v2 x k0 (λv u h=>by obtain⟨⟨b1,c1,e,_⟩,_⟩:=h;exact⟨b1,N,c1,e⟩) ?_;intro O s v Y B V A Nx Fd Wg ab N' ac w5 k7 n6 c3 p;obtain⟨b8,k5,I⟩:=n6;obtain⟨b1,c1,rfl,t6,t8⟩:=id b8;obtain⟨rfl,rfl⟩:N'=N/\ac=c1:=by cases c3<;>exact⟨rfl,rfl⟩
  have gb:∀{B:Ly},bq wq B->bq s B:=λ⟨n7,e,g,h1,h2⟩=>⟨n7,e,g,by rw[I.block _ (Lz.1 h1).1 (by simp)];exact h1,h2⟩;have gi:∀{v:LA},bh wq v->bh s v:=λh S n c e=>gb (h S n c e);have e7:=vy.mono p.le;have g7:=v1.mono p.le;have e9:=v2.mono p.le;have t1:=pO p.wr x p.own (gi yi) e7;have t2:=pO p.wr x p.own (gi pi) g7;have t3:=pO p.wr x p.own (gi vi) e9;have t4:=pO p.wr x p.own k5 c3
  let bl:Lx Ly:=(yb.toList++pb.toList++vb.toList++ab.toList).map (·.block)
  have n3:∀b∈bl,k7 b=.mine 0/\bq w5 b:=by
   intro b hb;simp only[bl,Nt,Ob,Wd] at hb;obtain⟨S,(((h | h) | h) | h),rfl⟩:=hb
   ·exact t1 S h
   ·exact t2 S h
   ·exact t3 S h
   ·exact t4 S h
  have C:∀{q:LU MN},q∈[yb,pb,vb,ab]->∀S,q=Lq S->S.block∈bl:=by
   intro q hq S e;subst e;simp only[MK,NQ,or_false] at hq;simp only[bl,Nt,Ob,Wd];refine⟨S,?_,rfl⟩;rcases hq with h | h | h | h<;>simp[<- h]
  have k8:BR O 0 0:=(z.gl 0 (Mw _)).mono p.le;refine JV p n3 ?_ (p.own _ _ k8) (C (by simp)) (C (by simp)) (C (by simp)) (C (by simp)) (FN p.wr x (show aC 0 wq.heap.size s _ r from e4.kept (w:=wq.tp s.tape) I (by simp)) (gi yi) e7) (zQ p.wr x (show ai 0 wq.heap.size s _ F from e5.kept (w:=wq.tp s.tape) I (by simp)) (gi vi) e9) (zQ p.wr x (show ai 0 wq.heap.size s _ l from e6.kept (w:=wq.tp s.tape) I (by simp)) (gi pi) g7) (CL p.wr x b8 k5 c3) n5 p4 p3 bc hl ll l7 hN ?_
  ·obtain⟨cs,e,g,h0,m5⟩:=h0;have h1:s.heap[0]?=Lq (.cells cs e g):=by rw[I.block 0 (Lz.1 h0).1 (by simp)];exact h0
   exact CK p.wr x k8 ⟨cs,e,g,h1,m5⟩
  ·intro t todo w6 u5 v hv h8 l8 g9 g8 b7 n2 ht;have n4:W.heap.size<=w.heap.size:=z.kp.size;have c5:∀b,b<W.heap.size->k7 b=.mine 0:=λb hb=>(p.cold b (LY hb n4)).t (z.om b hb);have s5:w.heap.size<=w5.heap.size:=p.kp.size;refine EE.pure (g':=G (c'.finish (.bool v)) R) rfl (λw=>?_) λd=>?_
   ·have hr:(Om PO t).run Ma w=.ok (.bool v) w:=by rw[<- ht];exact Sv Av t Ma w
    exact stepG_leave (P:=Ma) (main:=LG) (b:=Mo 85) (a:=⟨t,[]⟩) (cs:=R) (c:=c') (todo:=todo) (fn:=PO) rfl rfl Tryz.func85 hr (Sm Av _ _)
   ·have e8:WR Ya W.heap.size O s w6:=p.wr.rely l8 (by rw[g9]) (λi j H _=>h8 j (p.wr.lt _ _ H) (p.own _ _ H)) (λi j _ h=>absurd h (x i));have hE:=h9 s v hv I;rw[m9] at hE;refine EL.resume hE m4 m7 p.le z.top z.rest (.bool v) (CB e8 d) p.ln z.gl (λi j H=>b7 j (p.own i j H)) n2 ⟨λj hj hn=>?_,g9.trans (p.kp.os.trans z.kp.os),g8.t (p.kp.output.trans z.kp.output),?_,λi j H hi=>?_,?_⟩ λb hb=>b7 b (c5 b hb)
    ·show w6.heap[j]?=_;rw[h8 j (by omega) (c5 j hj),p.kp.old j (by omega) hn,z.kp.old j hj λi hi=>hn i (hi.mono p.le)]
    ·show W.heap.size<=w6.heap.size;omega
    ·rcases p.fr i j H with h | h
     ·exact z.kp.inn i j h hi
     ·omega
    ·show W.heap.size<=w6.heap.size;omega
 have:=c8 w.drawn;exact this
end
end
section
open Go Go.RowKit Go.Co Go.Sim
def zG(b:Lx Par)(a:Lx LJ):Ly:=(fL b a).length
def sF(b:Lx Par)(a:Lx LJ)(i d:Ly):LJ:=((fL b a)[i]?.getD λ_=>0) d
def Hk(c:Lx Par)(k:∀p∈c,0<=p.mn/\p.mn<=p.mx/\p.mx<=1000)(b:Lx LJ):∀g∈fL c b,∀d,0<=g d/\g d<=1000:=by
 have e:∀(b:Lx LJ) (L:Lx (Ly->LJ)),(∀g∈L,∀d,0<=g d/\g d<=1000)->∀g∈b.foldl (iy c) L,∀d,0<=g d/\g d<=1000:=by
  intro b;induction b with
  | nil=>exact λL h=>h
  | cons x b j=>
   intro L h;refine j _ λg a d=>?_;unfold iy at a;split at a
   ·rename_i p f
    have⟨q,o,n⟩:=k p (Mh f);unfold fT at a;rw[Ox] at a;obtain⟨l,i,a⟩:=a;unfold iq at a;rw[Nt] at a;obtain⟨m,hm,rfl⟩:=a;rw[Nj] at hm;unfold kOf at hm;unfold qB;split
    ·omega
    ·exact h l i d
   ·exact h g a d
 exact e b _ λg a d=>by simp at a;subst a;simp
def Hl(a:Lx Par)(c:∀p∈a,0<=p.mn/\p.mn<=p.mx/\p.mx<=1000)(b:Lx LJ)(i d:Ly):0<=sF a b i d/\sF a b i d<=1000:=by
 unfold sF;cases h:(fL a b)[i]? with
 | none=>simp
 | some g=>exact Hk a c b g (Mh h) d
def Jp{y f:Ly}{t w:LA}{b:Lx Par}{o:LJ}{a:Lx LJ}{l:Lt}(N:dh y f l t b o)(P:ai y f l w a)(z:f<=l.heap.size)(Q:b.length<=5)(G:∀x∈a,0<=x/\x<b.length)(I:∀p∈b,0<=p.mn/\p.mn<=p.mx/\p.mx<=1000)(F:∀j,j<=a.length->(fL b (a.take j)).length<=900000)(T:Ly->NU->Ly) :MH Ya 137 #[t,w] (l.tp T) λe u=>∃v,e=.returned v/\Cas (zG b a) (sF b a) l v u:=by
 refine(Cn y f t w b o a (l.tp T) N P z Q G I F).mono ?_;rintro e u ⟨v,rfl,D,L,f⟩;have O:zG b a<=900000:=by have:=F a.length (LC _);rwa [NH] at this
 refine⟨v,rfl,?_,?_,?_⟩
 ·rcases L.2 with⟨rfl,R⟩ | ⟨g,C,B,rfl,U,r,_,_,_,k⟩
  ·have A:zG b a=0:=R;exact⟨Lw,0,by rw[A],by omega,λh=>by omega⟩
  ·refine⟨_,C,rfl,by omega,λ_=>⟨g,0,B,101,_,rfl,Mw _,(Lz.1 r).1,r,λi f d M=>?_⟩⟩;have q:i<(fL b a).length:=f;have s:=tO (fL b a) i _ (LO q) d M;rw[<- k,QZ] at s;split at s
   ·rw[Mn];unfold sF;rw[LO q];simpa using s
   ·cases s
 ·intro S n c e;subst e;exact f S.block rfl
 ·have H:u.tape=T:=D.tape;rw[H];exact D
end
section
open Go Go.RowKit Go.Co Go.Sim Go.Conc Go.ConcN
def DV{a:Lx Par}{f:Par->LJ}(b:∀p∈a,0<=f p/\f p<=1000)(k i:Ly):0<=pre f a k i/\pre f a k i<=1000:=by
 unfold pre;split
 ·cases h:a[i]? with
  | none=>simp
  | some p=>exact b p (Mh h)
 ·simp
def oG(a:Lx Par)(l b:Lx LJ):Prop:=∃i,i<zG a b/\(aL a (ovr (sF a b i) (pre Par.mn a a.length) b b.length) l && !aL a (ovr (sF a b i) (pre Par.mx a a.length) b b.length) l)=LG
section
variable[J:JunkSet]{f:Nh}{Post:LA->Lt->Prop}{W:Lt}
def EL.doubt(D:Two Ya Ma)(A:JunkSet.okf 137)(B:∀i,¬ JunkSet.jk i)(C:Ya.inits.idxOf? f=Lw)(F:∃g,Ya.funcs[f]?=Lq g/\Tryz.prog.funcs[f]?=Lq g){b:LW}{a:ON}{k:Lx PW}{I:Lx LW}{d:Lt}(hb:Bot f I)(X:Ya.funcs[b.fn]?=Tryz.prog.funcs[b.fn]?){e:LM NB}{i:Ly}{n:Lx Ly}{o:NB}(Y:e[i]?=Lq o)(U:MA o (Od e a.tmps)=LG){ybq pbq vbq:LU MN}{ps:Lx Par}{l wl:Lx LJ}{yc pc vc:Ly}{lim:LJ}(w:∀T,(OZ a.eval o).run Ya (d.tp T)=.ok (.enter 85 #[.agg #[.slice ybq ps.length yc,lim],.slice pbq l.length pc,.slice vbq wl.length vc]) (d.tp T))(q:aC 0 d.heap.size d (.slice ybq ps.length yc) ps)(O:bh d (.slice ybq ps.length yc))(s:ai 0 d.heap.size d (.slice pbq l.length pc) l)(Q:bh d (.slice pbq l.length pc))(r:ai 0 d.heap.size d (.slice vbq wl.length vc) wl)(P:bh d (.slice vbq wl.length vc))(h0:bq d 0)(L:ps.length<=5)(z:∀p∈ps,0<=p.mn/\p.mn<=p.mx/\p.mx<=1000)(Z:∀y∈l,0<=y/\y<ps.length)(R:l.length<=1000)(t:∀y∈wl,0<=y/\y<ps.length)(M:∀j,j<=wl.length->(fL ps (wl.take j)).length<=900000)(x:∀u (v:MC),(v=LG↔oG ps l wl)->(d.tp u.tape).gb u Lw->EL Ya Ma f Post W (G ((b.at a (.inRegion e (i::n)::k)).finish (.bool v)) I) u) :EL Ya Ma f Post W (G (b.at a (.inRegion e (i::n)::k)) I) d:=by
 have H:zG ps wl<=900000:=by have:=M wl.length (LC _);rwa [NH] at this
 exact EL.doubtful D A B C F hb X Y U (N:=zG ps wl) (c:=sF ps wl) w q O s Q r P h0 L (DV (λp h=>by have:=z p h;omega) _) (DV (λp h=>by have:=z p h;omega) _) (Hl ps z wl) Z R (λy S=>by have:=t y S;omega) H
  (Jp ⟨_,rfl,q⟩ r (LC _) L t z M) λu v V hg=>x u v V hg
end
end
section
open Go Go.RowKit Go.Co
section
variable{lo hi O:Ly}{w w':Lt}{v:LA}
def gM{i b:LM LA}{e d:LZ}{f g:Ly × Ly}{B:Ly}(h:w.heap[B]?=Lq (.cells i e f))(c:w.heap[O]?=Lq (.cells b d g))(a:e≠d):B≠O:=by
 rintro rfl;rw[h] at c;cases c;exact a rfl
def ai.kept_ne{l:Lx LJ}(h:ai lo hi w v l)(i:w.gb w' (Lq O)){b:LM LA}{n:Ly × Ly}(j:w.heap[O]?=Lq (.cells b 29 n)):ai lo hi w' v l:=by
 obtain⟨base,c,rfl,g,f⟩:=h;refine⟨base,c,rfl,g,λa=>?_⟩;have⟨B,o,t,k,s,r,q,d,p⟩:=f a;exact⟨B,o,t,k,s,r,q,blk i (λe=>gM d j (by decide) (by cases e;rfl)) d,p⟩
def aC.kept_ne{l:Lx Par}(h:aC lo hi w v l)(i:w.gb w' (Lq O)){b:LM LA}{n:Ly × Ly}(j:w.heap[O]?=Lq (.cells b 29 n)):aC lo hi w' v l:=by
 obtain⟨base,c,rfl,g,f⟩:=h;refine⟨base,c,rfl,g,λa=>?_⟩;have⟨B,o,t,k,s,r,q,d,p⟩:=f a;exact⟨B,o,t,k,s,r,q,blk i (λe=>gM d j (by decide) (by cases e;rfl)) d,p⟩
def bq.kept_ne{B:Ly}(h:bq w B)(i:w.gb w' (Lq O)){a:LU MN}{n c:Ly}{j:Ly × Ly}(b:w.heap[O]?=Lq (.cells #[.slice a n c] 29 j)):bq w' B:=by
 obtain⟨l,e,f,g,d⟩:=h;refine⟨l,e,f,blk i (λe=>?_) g,d⟩;cases e;rw[g] at b;cases b;have⟨k,m,e⟩:=d 0 _ rfl;cases e
def bh.kept_ne(h:bh w v)(b:w.gb w' (Lq O)){a:LU MN}{n c:Ly}{f:Ly × Ly}(d:w.heap[O]?=Lq (.cells #[.slice a n c] 29 f)):bh w' v:=λg m k e=>bq.kept_ne (h g m k e) b d
end
end
section
open Go Go.RowKit Go.Co Go.Sim Go.Conc Go.ConcN
structure jZ(w:Lt)(O Y L:Ly)(yb:LU MN)(ps:Lx Par)(yc:Ly)(lim:LJ)(pb:LU MN)(l:Lx LJ)(pc:Ly):Prop where
 out:∃b n c,w.heap[O]?=Lq (.cells #[.slice b n c] 29 (0,0))
 ya:w.heap[Y]?=Lq (.cells #[.slice yb ps.length yc,lim] 91 (0,0))
 pa:w.heap[L]?=Lq (.cells #[.slice pb l.length pc] 29 (0,0))
 ne:O≠L
 pars:aC 0 w.heap.size w (.slice yb ps.length yc) ps
 yi:bh w (.slice yb ps.length yc)
 ints:ai 0 w.heap.size w (.slice pb l.length pc) l
 pi:bh w (.slice pb l.length pc)
 h0:bq w 0
def jZ.kept{w o:Lt}{O Y L:Ly}{r:LU MN}{s:Lx Par}{q:Ly}{i:LJ}{u:LU MN}{l:Lx LJ}{t:Ly}(h:jZ w O Y L r s q i u l t)(a:w.gb o (Lq O))(x:∃b n c,o.heap[O]?=Lq (.cells #[.slice b n c] 29 (0,0))):jZ o O Y L r s q i u l t:=by
 have⟨b,n,c,d⟩:=h.out;refine⟨x,blk a (λe=>gM h.ya d (by decide) (by cases e;rfl)) h.ya,blk a (λe=>h.ne (by cases e;rfl)) h.pa,h.ne,(h.pars.kept_ne a d).mono (LC _) a.size,h.yi.kept_ne a d,(h.ints.kept_ne a d).mono (LC _) a.size,h.pi.kept_ne a d,?_⟩;have⟨y,e,g,p,j⟩:=h.h0;refine⟨y,e,g,blk a (λe=>?_) p,j⟩;cases e;rw[d] at p;cases p;have⟨k,m,e⟩:=j 0 _ rfl;cases e
def jZ.tp{w:Lt}{O Y L:Ly}{c:LU MN}{d:Lx Par}{b:Ly}{a:LJ}{g:LU MN}{l:Lx LJ}{e:Ly}(h:jZ w O Y L c d b a g l e)(T:Ly->NU->Ly):jZ (w.tp T) O Y L c d b a g l e :=
 ⟨h.out,h.ya,h.pa,h.ne,h.pars,h.yi,h.ints,h.pi,h.h0⟩
def Tp.x85:Ya.funcs[85]?=Lq { PO with body:=Lq (.exit 0) }:=by kernel_rfl
section
variable[J:JunkSet]{f:Nh}{Post:LA->Lt->Prop}{W:Lt}
def EC.of_body1(D:Two Ya Ma){d:Nh}{fn:Func}{c0:Og}{b:LM LA}{j:Lt}{R:LA->Lt->Prop}{t:Ly}(n:Ya.funcs[d]?=Lq fn)(l:Tryz.prog.funcs[d]?=Lq fn)(i:fn.body=Lq c0)(k:fn.results=#[.tmp t])(h:∀e,Bot f e->(∀g a u,R (g.getD t LI) u->EL Ya Ma f Post W (G { (Mo d).at ⟨g,[]⟩ a with mode:=.returning } e) u) ->EL Ya Ma f Post W (G ((Mo d).at ⟨b++MR (fn.ntmps - b.size) LI,[]⟩ [.code c0]) e) j):EC Ya Ma f Post W d b j R :=
 EC.of_body D n l i λe o c=>h e o λg a u p=>c ⟨g,[]⟩ a u _ rfl (λT=>Sv k _ _ _) p
structure FH(ps:Lx Par)(l wl:Lx LJ):Prop where
 n5:ps.length<=5
 hp:∀p∈ps,0<=p.mn/\p.mn<=p.mx/\p.mx<=1000
 hl:∀y∈l,0<=y/\y<ps.length
 ll:l.length<=1000
 hwl:∀y∈wl,0<=y/\y<ps.length
 wl1:wl.length<=1000
 hN:∀j,j<=wl.length->(fL ps (wl.take j)).length<=900000
def Ld(D:Two Ya Ma)(b8:JunkSet.okf 137)(b9:∀i,¬ JunkSet.jk i)(c8:Ya.inits.idxOf? f=Lw)(c9:∃g,Ya.funcs[f]?=Lq g/\Tryz.prog.funcs[f]?=Lq g){wq:Lt}{O Y L:Ly}{yb:LU MN}{ps:Lx Par}{yc:Ly}{lim:LJ}{pb:LU MN}{l:Lx LJ}{pc:Ly}(h:jZ wq O Y L yb ps yc lim pb l pc){B:LU MN}{vc:Ly}{wl:Lx LJ}(hw:ai 0 wq.heap.size wq (.slice B wl.length vc) wl)(b0:bh wq (.slice B wl.length vc))(C:wl≠[]\/(MU B wl.length vc)=.slice Lw 0 0)(F:FH ps l wl) :EC Ya Ma f Post W 83 #[.slice B wl.length vc,.pointer (Lq O),.pointer (Lq Y),.pointer (Lq L)] wq λv u=>∃d:MC,v=.bool (!d)/\(d=LG↔oG ps l wl)/\(wq.tp u.tape).gb u (Lq O)/\∃b n c,u.heap[O]?=Lq (.cells #[.slice b n c] 29 (0,0))/\ai 0 u.heap.size u (.slice b n c) wl:=by
 refine EC.of_body1 D (fn:=Tryz.f83) (c0:=Tryz.f83.body.getD .skip) (t:=5) Tp.x83 Tryz.func83 (by kernel_rfl) rfl λcs q r=>?_;have HR:=Lu r;clear r;simp only[Tryz.f83,LQ];have p:Ya.funcs[(Mo 83).fn]?=Tryz.prog.funcs[(Mo 83).fn]?:=bG 83 (by decide);walk_nrm;refine EL.sp D q p λT=>?_;go_wp2;refine EL.tape (wq:=wq) ?_ T;refine EL.sp D q p λT=>?_;have⟨ob,on,oc,S⟩:=h.out;have HO:=Lu S;have P:(wq.tp T).frozen? ⟨O,0,Lw⟩=LH:=aB S;have Q:(wq.tp T).cell? O=Lq (.slice ob on oc):=aa S rfl;have M:O<(wq.tp T).heap.size:=(Lz.1 S).1;clear S;go_wp2;refine(oK 0 wq.heap.size _ wl (wq.tp T) hw (LC _) C F.wl1).mono ?_;rintro e A ⟨v',rfl,j,V⟩;have d6:=j.cl Q;have N:=(j.frozen_far _ M (by simp)).t P;have s:=(bk j HO);have⟨Z,H⟩:=aS j V;have b7:=j.size;have X:=Lu s;clear j V s;obtain⟨z,y,rfl,-,-⟩:=H.out.cell;go_wp2;have o:(wq.tp T).gb (A.setCell O (.slice z wl.length y)) (Lq O):=(Z.but (Lq O)).t (an A O 0 _);have G:(A.setCell O (.slice z wl.length y)).heap[O]?=Lq (.cells #[.slice z wl.length y] 29 (0,0)):=by rw[ar X];rfl
 have U:ai 0 (A.setCell O (.slice z wl.length y)).heap.size (A.setCell O (.slice z wl.length y)) (.slice z wl.length y) wl :=
  (H.kept (an A O 0 _) (λR e=>by cases e;exact .inl M)).mono (Mw _) (by simp)
 generalize A.setCell O (.slice z wl.length y)=u at o G U ⊢;clear d6 N P Q b7 Z H X;have x:jZ u O Y L yb ps yc lim pb l pc:=jZ.kept (h.tp T) o ⟨_,_,_,G⟩;have b6:ai 0 u.heap.size u (.slice B wl.length vc) wl:=(ai.kept_ne (w:=wq.tp T) hw o HO).mono (LC _) o.size;have I:bh u (.slice B wl.length vc):=bh.kept_ne (w:=wq.tp T) b0 o HO;show EL _ _ _ _ _ _ _;refine EL.seq D q p ?_;refine EL.region D q p ?_;simp only[Mt,LX,Mj,Ms,Mn,Mr,MY];refine EL.list D q p [0,1,2] [_,_,_] (rest:=[3,4,5]) rfl λT3=>?_;have c1:(u.tp T3).cell? Y=Lq (.slice yb ps.length yc):=aa x.ya rfl;have c2:(u.tp T3).cell? ⟨Y,1,Lw⟩=Lq (.int .i64 lim):=aa x.ya rfl;have c3:(u.tp T3).cell? L=Lq (.slice pb l.length pc):=aa x.pa rfl;go_wp2;refine EL.tape (wq:=u) ?_ T3;refine EL.doubt D b8 b9 c8 c9 q p (ybq:=yb) (pbq:=pb) (vbq:=B) (ps:=ps) (l:=l) (wl:=wl) (yc:=yc) (pc:=pc) (vc:=vc) (lim:=lim) rfl rfl (λT4=>by rw[RZ (f:=85) rfl Tp.x85 (by kernel_rfl) rfl];walk_nrm) x.pars x.yi x.ints x.pi b6 I x.h0 F.n5 F.hp F.hl F.ll F.hwl F.hN λu2 d d5 a=>?_;rw[Ow];walk_nrm;refine EL.list D q p [4,5] [_,_] (rest:=[]) rfl λT5=>?_;go_wp2;refine EL.tape (wq:=u2) ?_ T5;refine EL.region_end D q p ?_;refine EL.retS D q p ?_;refine HR _ _ u2 ⟨d,rfl,d5,?_,z,wl.length,y,?_,?_⟩
 ·exact⟨a.os.trans o.os,rfl,a.output.trans o.output,LN o.size a.size,λk hk C=>(a.block k (LY hk o.size) (by simp)).t (o.block k hk C)⟩
 ·exact bk a G
 ·exact(ai.kept (w:=u.tp u2.tape) U a (by simp)).mono (LC _) a.size
end
end
section
open Go Go.RowKit Go.Co Go.Sim Go.Conc Go.ConcN
def Ie(x:LM LA)(h:x.size=41):∃Y X V U T S R Q P O N M L I H G F D C B A z y w v u s r q p o n l k j i g d c b a,x=#[Y,X,V,U,T,S,R,Q,P,O,N,M,L,I,H,G,F,D,C,B,A,z,y,w,v,u,s,r,q,p,o,n,l,k,j,i,g,d,c,b,a]:=by
 have e:=jI x;rw[h] at e;exact⟨_,_,_,_,_,_,_,_,_,_,_,_,_,_,_,_,_,_,_,_,_,_,_,_,_,_,_,_,_,_,_,_,_,_,_,_,_,_,_,_,_,e.t rfl⟩
structure pM(w:Lt)(E Lv Gp O Y Lp:Ly)(lb:LU MN)(lc:Ly)(ws:Lx LJ):Prop where
 en:w.heap[E]?=Lq (.cells #[.func (.func 83) #[] #[.pointer (Lq O),.pointer (Lq Y),.pointer (Lq Lp)]] 51 (0,0))
 ls:w.heap[Lv]?=Lq (.cells #[.slice lb ws.length lc] 29 (0,0))
 wsI:ai 0 w.heap.size w (.slice lb ws.length lc) ws
 gr:w.heap[Gp]?=Lq (.cells #[.func (.func 136) #[] #[.pointer (Lq E),.pointer (Lq Lv),.pointer (Lq Gp)]] 151 (0,0))
 neL:O≠Lv
def dp(p:Lx LJ->MC):Lx (Lx LJ)->Lx LJ->MC × Lx LJ
 | [],o=>(LH,o)
 | c::a,_=>if p c then(LG,c) else dp p a c
def sM(p:Lx LJ->MC):∀(a b:Lx (Lx LJ)) (o:Lx LJ),dp p (a++b) o=if(dp p a o).1 then dp p a o else dp p b (dp p a o).2:=by
 intro a;induction a with
 | nil=>intro b o;simp[dp]
 | cons c a d=>
  intro b o;simp only[Mk,dp];by_cases h:p c=LG
  ·simp[h]
  ·simp only[if_neg h];exact d b c
def xm(w:Lt)(a b:Ly)(e:LZ):a<=Qa w a b e:=by
 unfold Qa;simp only[Question.cut];omega
def Cy(z:LM LA)(a:bK z.toList)(b:0<z.size)(n:Ly):bK (Ol z n).toList:=vz a b n
def wQ{w:Lt}{l:Lx LJ}{zs:LM LA}(g:bK zs.toList)(k:l.length<=1000000)(a:Ly) :ai w.heap.size (w.drew.alloc (.cells ((l.map (Mp .i64)).toArray++zs) 3)).heap.size (w.drew.alloc (.cells ((l.map (Mp .i64)).toArray++zs) 3)) (.slice (Lq w.heap.size) l.length a) l /\bh (w.drew.alloc (.cells ((l.map (Mp .i64)).toArray++zs) 3)) (.slice (Lq w.heap.size) l.length a):=by
 have b:(w.drew.alloc (.cells ((l.map (Mp .i64)).toArray++zs) 3)).heap[w.heap.size]?=Lq (.cells ((l.map (Mp .i64)).toArray++zs) 3 (0,0)):=LS w.drew _;refine⟨⟨_,a,rfl,by omega,λ_=>⟨w.heap.size,0,_,_,rfl,LC _,?_,b,λi d=>?_⟩⟩,λo n c e=>?_⟩
 ·exact(Lz.1 b).1
 ·rw[Mn,PG (by simpa using d)];simp[LO d]
 ·cases e;refine⟨_,_,_,b,λi v j=>?_⟩;have hm:=NN j;rcases Pj.1 hm with h | h
  ·simp only[Pl,Nt] at h;obtain⟨x,_,rfl⟩:=h;exact⟨_,_,rfl⟩
  ·exact g v (by simpa using h)
def DL{w:Lt}{A:LU MN}{L B:Ly}{a:Lx LJ}{x:LJ}(z:LZ)(H:ai 0 w.heap.size w (.slice A a.length L) a)(M:w.cell? B=Lq (.int .i64 x))(R:a.length<=1000) :∃c p,(PI #[29,29] z #[.slice A a.length a.length,.slice (Lq B) 1 1]).run Ya w=.ok (.slice (Lq w.heap.size) (a.length+1) c) p/\a.length+1<=c/\w.gb p Lw /\ai w.heap.size p.heap.size p (.slice (Lq w.heap.size) (a.length+1) c) (a++[x])/\bh p (.slice (Lq w.heap.size) (a.length+1) c):=by
 have⟨F,y,u,h,s⟩:=Pd Tp.info3p;have g:∀j v,([Mp .i64 x]:Lx LA)[j]?=Lq v->w.cell? ((⟨B,0,Lw⟩:MN).add j)=Lq v:=λj v k=>by
  have:j=0:=by have:=(Md.1 k).1;simp at this;omega
  subst this;simp at k;subst k;simpa[Addr.add] using M
 have r:bK (Mp .i64 0).cells.toList:=λv G=>by simp[Value.cells] at G;exact⟨_,_,G⟩
 have q:(a++[x]).length=a.length+1:=by simp
 cases A with
 | none=>
  have Q:a=[]:=by
   refine MX λC=>?_;obtain⟨base,c,e,_,n⟩:=H;cases e;have⟨B,o,T,S,D,_⟩:=n C;cases D
  subst Q;have n:=run_append_nil (P:=Ya) w 29 z 3 F _ Tp.und29' y u ⟨B,0,Lw⟩ 1 1 [Mp .i64 x] (by rw[h];rfl) g (by omega) (by omega) (by rw[s];omega);have:=wQ (w:=w) (l:=[x]) (zs:=Ol (Mp .i64 0).cells (Qa w 1 0 3 - 1)) (Cy _ r (by decide) _) (by simp) (Qa w 1 0 3);exact⟨_,_,n,xm _ _ _ _,(ak w Lw).t (Lr _ _ Lw),this.1,this.2⟩
 | some b=>
  have i:∀j v,(a.map (Mp .i64))[j]?=Lq v->w.cell? (b.add j)=Lq v:=λj v k=>by
   have d:j<a.length:=by simpa using(Md.1 k).1
   have⟨base,c,e,_,N⟩:=H.cell;cases e;have⟨U,o,D,_,_,_,O⟩:=N (by intro e;rw[e] at d;simp at d);cases D;have I:=O j d;rw[NO,LO d] at k;rw[LO d] at I;cases k;exact gX I
  have n:=run_append_grow (P:=Ya) w 29 z 3 F _ Tp.und29' y u b a.length a.length (a.map (Mp .i64)) (by rw[h];simp) i ⟨B,0,Lw⟩ 1 1 [Mp .i64 x] (by rw[h];rfl) g (by omega) (by omega) (growslice_fits (by omega) (by rw[s];omega));have:=wQ (w:=w) (l:=a++[x]) (zs:=Ol (Mp .i64 0).cells (Qa w (a.length+1) a.length 3 - (a.length+1))) (Cy _ r (by decide) _) (by simp;omega) (Qa w (a.length+1) a.length 3);have e:(a.map (Mp .i64)).toArray++[Mp .i64 x].toArray=((a++[x]).map (Mp .i64)).toArray:=by simp
  rw[e] at n;rw[q] at this;exact⟨_,_,n,xm _ _ _ _,(ak w Lw).t (Lr _ _ Lw),this.1,this.2⟩
section
variable[J:JunkSet]{f:Nh}{Post:LA->Lt->Prop}{W:Lt}
noncomputable def sub:Lx Ly->Og->Og
 | 0::l,.seq a _=>sub l a
 | 1::l,.seq _ b=>sub l b
 | 0::l,.cond _ a _=>sub l a
 | 1::l,.cond _ _ b=>sub l b
 | 0::l,.block _ c=>sub l c
 | 0::l,.loop c=>sub l c
 | _,c=>c
def AT{d:LM NB}{o:NB}{a:ON}{w:Lt}{K:ON->Lt->Prop}{Q:SS->ON->Lt->Prop}{E:Prop}(g:o.guard=Lw)(s x:MS)(e:o.op=.call { callee:=.builtin .append,args:=#[s,x],argTypes:=#[29,29] }){nb:LU MN}{nc B:Ly}{now:Lx LJ}{y:LJ}(hs:a.eval s=.slice nb now.length now.length)(hx:a.eval x=.slice (Lq B) 1 1)(hN:ai 0 w.heap.size w (.slice nb now.length nc) now)(hy:w.cell? B=Lq (.int .i64 y))(hl:now.length<=1000)(h:∀b c,now.length+1<=b->w.gb c Lw->ai w.heap.size c.heap.size c (.slice (Lq w.heap.size) (now.length+1) b) (now++[y])->bh c (.slice (Lq w.heap.size) (now.length+1) b)->K (a.put o.dst (.slice (Lq w.heap.size) (now.length+1) b)) c) :if MA o (Od d a.tmps)=LG then Oper.wp Ya o a w K Q else E:=by
 rw[if_pos (by simp[MA,g])];have⟨b,c,i,n,l,k,j⟩:=DL o.type hN hy hl;unfold Oper.wp OZ;simp only[e,resolve,invoke,builtin,NF,RO,NC,RQ,PS,Ra,hs,hx,i];exact h b c n l k j
noncomputable def yP:Og->LM NB
 | .region _ ops _=>ops
 | _=>#[]
def KR(D:Two Ya Ma){cs:Lx LW}{k:Lx PW}(S:Bot f cs){u:Lt}{E Lv Gp O Y Lp LB lo:Ly}{nb:LU MN}{lc nc i m:Ly}{ws now:Lx LJ}{x:LJ}{y1 y3 y6 y7 y8 y9 y11 y12 y13 y14 y15 y16 y17 y18 y19 y20 y21 y22 y23 y24 y25 y26 y27 y28 y29 y30 y31 y32 y33 y34 y35 y36 y37 y38 y39 y40:LA}(A:pM u E Lv Gp O Y Lp (Lq ⟨LB,lo,Lw⟩) lc ws)(z:ai 0 u.heap.size u (.slice nb now.length nc) now)(Q:now.length<=nc)(hi:i<ws.length)(r:u.cell? ⟨LB,lo+i,Lw⟩=Lq (.int .i64 x))(hm:m<=1000)(R:now.length<=1000)(hw:ws.length<=1000)(b:∀g a d,now.length+1<=a->(u.tp d.tape).gb d Lw->ai 0 d.heap.size d (.slice (Lq ⟨g,0,Lw⟩) (now.length+1) a) (now++[x])->bh d (.slice (Lq ⟨g,0,Lw⟩) (now.length+1) a) ->EL Ya Ma f Post W (G ((Mo 136).at ⟨#[(.slice nb now.length nc),y1,(.int .i64 (m+1:Ly)),y3,(.pointer (Lq Lv)),(.pointer (Lq Gp)),y6,y7,y8,y9,(.int .i64 i),y11,y12,y13,y14,y15,y16,y17,y18,y19,y20,y21,y22,(.func (.func 136) #[] #[.pointer (Lq E),.pointer (Lq Lv),.pointer (Lq Gp)]),(.slice nb now.length nc),(.slice nb now.length nc),(.int .i64 now.length),(.slice nb now.length nc),(.int .i64 now.length),(.slice nb now.length now.length),(.slice (Lq ⟨LB,lo,Lw⟩) ws.length lc),(.int .i64 i),(.pointer (Lq ⟨LB,lo+i,Lw⟩)),(.int .i64 x),(.slice (Lq u.heap.size) 1 1),(.slice (Lq ⟨g,0,Lw⟩) (now.length+1) a),(.int .i64 i),(.int .i64 (i+1:Ly)),(.int .i64 (m+1:Ly)),(.int .i64 m),y40],[]⟩ (.inRegion (yP (sub [1,1,0,1,0,0,1,0,0,0] (Tryz.f136.body.getD .skip))) [17]::k)) cs) d) :EL Ya Ma f Post W (G ((Mo 136).at ⟨#[(.slice nb now.length nc),y1,(.int .i64 (m+1:Ly)),y3,(.pointer (Lq Lv)),(.pointer (Lq Gp)),y6,y7,y8,y9,(.int .i64 i),y11,y12,y13,y14,y15,y16,y17,y18,y19,y20,y21,y22,y23,y24,y25,y26,y27,y28,y29,y30,y31,y32,y33,y34,y35,y36,y37,y38,y39,y40],[]⟩ (.code (sub [1,1,0,1,0,0,1,0,0,0] (Tryz.f136.body.getD .skip))::k)) cs) u:=by
 have P:Ya.funcs[(Mo 136).fn]?=Tryz.prog.funcs[(Mo 136).fn]?:=bG 136 (by decide);simp only[Td,LQ,sub,yP] at b ⊢;have Z:=Lu b;clear b;refine EL.region_chain D S P 17 [17] (by kernel_rfl) (by kernel_rfl) (by kernel_rfl) (by kernel_rfl) λT=>?_;generalize y:cK _ 17=ops';simp only[cK,List.take_succ_cons,List.take_zero,MQ,Nu,PS,Ra,Mk,Mu,ew] at y;subst y;have F:(u.tp T).cell? Gp=Lq (.func (.func 136) #[] #[.pointer (Lq E),.pointer (Lq Lv),.pointer (Lq Gp)]):=aa A.gr rfl;have C:(u.tp T).cell? Lv=Lq (.slice (Lq ⟨LB,lo,Lw⟩) ws.length lc):=aa A.ls rfl;have B:(u.tp T).cell? ⟨LB,lo+i,Lw⟩=Lq (.int .i64 x):=r;have H:=Lu (show ai 0 (u.tp T).heap.size (u.tp T) (.slice nb now.length nc) now from z);clear z r;have N:IntKind.i64.wrap ((i:LJ)+1)=((i+1:Ly):LJ):=by simp[RU];omega
 have M:IntKind.i64.wrap (m:LJ)=(m:LJ):=by simp only[RU];omega
 change wpAny _ _ _ _ _ _ _ (World.drew (u.tp T));generalize s:u.tp T=v at F C B H ⊢;have X:=Lu s;clear s;have c:=Lu (show ∀w,v.gb w Lw->w.cell? Gp=Lq (.func (.func 136) #[] #[.pointer (Lq E),.pointer (Lq Lv),.pointer (Lq Gp)])/\w.cell? Lv=Lq (.slice (Lq ⟨LB,lo,Lw⟩) ws.length lc)/\w.cell? ⟨LB,lo+i,Lw⟩=Lq (.int .i64 x) from λw h=>⟨h.cl F,h.cl C,h.cl B⟩);have q:v.gb v.drew Lw:=ak v Lw;have e:=q.t (Lr v.drew (.cells #[x] 3) Lw);refine Ks 17 (λw=>w.cell? Gp=Lq (.func (.func 136) #[] #[.pointer (Lq E),.pointer (Lq Lv),.pointer (Lq Gp)])/\w.cell? Lv=Lq (.slice (Lq ⟨LB,lo,Lw⟩) ws.length lc)/\w.cell? ⟨LB,lo+i,Lw⟩=Lq (.int .i64 x)) (by kernel_rfl) (c _ q) (λhHeld=>?_);simp only[LX,Mj,Ms,NA,Mn,MF,MG,MZ,Mu,Mk];refine tk 0 (h:=tk 1 (h:=tk 2 (h:=tk 3 (h:=tk 4 (h:=tk 5 (h:=tk 6 (h:=tk 7 (h:=tk 8 (h:=tk 9 (h:=tk 10 (h:=tk 13 (h:=tk 14 (h:=tk 15 (h:=tk 16 (h:=?_)))))))))))))));try go_frame
 refine rdc 11 λK j=>?_;go_simp;refine j.out _ _ (c _ e) (λhHeld=>?_);clear j K;try go_frame
 refine rdc 12 λK j=>?_;refine AT rfl (.tmp 29) (.tmp 34) rfl (nc:=nc) rfl rfl ((H.kept e).mono (LC _) e.size) (gS _ _ _ _) R (λa I L p o n=>?_);refine j.out _ _ (c _ (e.t p)) (λhHeld=>?_);clear j K;try go_frame
 refine⟨by kernel_rfl,?_⟩;simp only[MQ,Nu];have l:=Lu (e.t p);rw[show(v.alloc (.cells #[x] 3)).drew.heap.size=v.heap.size+1 from Mc _ _] at o n;have⟨V,U⟩:=aS o n;clear p o n hHeld q e;go_wp2;obtain rfl:=X.out;exact Z _ a I L ⟨l.os,rfl,l.output,l.size,l.block⟩ (V.mono (Mw _) (LC _)) U
end
end
section
open Go Go.RowKit Go.Co Go.Sim Go.Conc Go.ConcN
def ju{P:LV}{a:ON}{w:Lt}{o:NB}{e:MS}{f:Nh}{b:Func}{args:LM MS}{d:LM LZ}{dJ:LM LA}(c:o.op=.call { callee:=.value e,args,argTypes:=d })(hv:a.eval e=.func (.func f) #[] dJ)(hf:P.funcs[f]?=Lq b)(hname:(b.name == "runtime.NumGoroutine")=LH)(hb:b.body.isNone=LH):(OZ a.eval o).run P w=.ok (.enter f (args.map a.eval++dJ)) w:=by
 have h:¬ b.name = "runtime.NumGoroutine" := by simpa using hname
 have g:¬ b.body=Lw:=by cases hx:b.body<;>simp_all
 unfold OZ;simp[c,resolve,Deferred.ofValue,invoke,callFunc,hf,h,g,hv]
def Out(w:Lt)(O:Ly)(o:Lx LJ):Prop:=∃b n c,w.heap[O]?=Lq (.cells #[.slice b n c] 29 (0,0))/\ai 0 w.heap.size w (.slice b n c) o
noncomputable def fS(a:Lx Par)(l c:Lx LJ):MC:=@decide (¬ oG a l c) (Classical.propDecidable _)
def vR{a:Lx Par}{l c:Lx LJ}{d:MC}(h:d=LG↔oG a l c):fS a l c=!d:=by
 unfold fS;cases d
 ·simpa using λe=>Bool.false_ne_true (h.2 e)
 ·simpa using h.1 rfl
def pM.kept{w i:Lt}{E l p O Y o:Ly}{k:LU MN}{j:Ly}{g:Lx LJ}(h:pM w E l p O Y o k j g)(a:w.gb i (Lq O)){b:LU MN}{n c:Ly}(d:w.heap[O]?=Lq (.cells #[.slice b n c] 29 (0,0))):pM i E l p O Y o k j g :=
 ⟨blk a (λe=>gM h.en d (by decide) (by cases e;rfl)) h.en,blk a (λe=>h.neL (by cases e;rfl)) h.ls,(h.wsI.kept_ne a d).mono (LC _) a.size,blk a (λe=>gM h.gr d (by decide) (by cases e;rfl)) h.gr,h.neL⟩
def pM.tp{w:Lt}{E d g O Y e:Ly}{c:LU MN}{b:Ly}{a:Lx LJ}(h:pM w E d g O Y e c b a)(T:Ly->NU->Ly):pM (w.tp T) E d g O Y e c b a:=⟨h.en,h.ls,h.wsI,h.gr,h.neL⟩
def gb{w u v:Lt}{r:LU Ly}(h:(w.tp u.tape).gb u r)(k:(u.tp v.tape).gb v r):(w.tp v.tape).gb v r :=
 ⟨k.os.trans h.os,rfl,k.output.trans h.output,LN h.size k.size,λi b a=>(k.block i (LY b h.size) a).t (h.block i b a)⟩
def Ja{w u:Lt}(r:LU Ly)(h:(w.tp u.tape).gb u Lw):(w.tp u.tape).gb u r:=h.but r
def Out.kept{w u:Lt}{O:Ly}{o:Lx LJ}(h:Out w O o)(a:(w.tp u.tape).gb u Lw):Out u O o:=by
 obtain⟨b,n,c,e,d⟩:=h;exact⟨b,n,c,bk a e,(ai.kept (w:=w.tp u.tape) d a (by simp)).mono (LC _) a.size⟩
def jZ.gr{w u:Lt}{O Y L:Ly}{e:LU MN}{g:Lx Par}{d:Ly}{a:LJ}{j:LU MN}{l:Lx LJ}{i:Ly}{o:Lx LJ}(h:jZ w O Y L e g d a j l i)(p:(w.tp u.tape).gb u (Lq O))(k:Out u O o):jZ u O Y L e g d a j l i:=by
 obtain⟨b,n,c,q,-⟩:=k;exact(h.tp _).kept p ⟨b,n,c,q⟩
def pM.gw{w u:Lt}{E g j O Y i:Ly}{e:LU MN}{d:Ly}{a o:Lx LJ}(h:pM w E g j O Y i e d a)(l:(w.tp u.tape).gb u (Lq O))(k:Out w O o):pM u E g j O Y i e d a:=by
 obtain⟨b,n,c,p,-⟩:=k;exact(h.tp _).kept l (b:=b) (n:=n) (c:=c) p
def ai.gr{w u:Lt}{O:Ly}{v:LA}{l o:Lx LJ}(h:ai 0 w.heap.size w v l)(a:(w.tp u.tape).gb u (Lq O))(d:Out w O o):ai 0 u.heap.size u v l:=by
 obtain⟨b,n,c,e,-⟩:=d;exact(ai.kept_ne (w:=w.tp u.tape) h a e).mono (LC _) a.size
def GrR(g:Lx Par)(l d:Lx LJ)(O m:Ly)(c:Lx LJ)(a:Ly)(h:Lx LJ)(e:Lt)(v:LA)(u:Lt):Prop :=
 ∃b o,dp (fS g l) (cM d m c a) h=(b,o)/\v=.bool b/\(e.tp u.tape).gb u (Lq O)/\Out u O o
def nt(w:Lt)(r:LU Ly):(w.tp w.tape).gb w r:=⟨rfl,rfl,rfl,LC _,λ_ _ _=>rfl⟩
section
variable[J:JunkSet]{f:Nh}{Post:LA->Lt->Prop}{W:Lt}
def Kn(D:Two Ya Ma)(k6:JunkSet.okf 137)(l4:∀i,¬ JunkSet.jk i)(l5:Ya.inits.idxOf? f=Lw)(l7:∃g,Ya.funcs[f]?=Lq g/\Tryz.prog.funcs[f]?=Lq g){M:Lx Par}{l ws:Lx LJ}{yb pb lb:LU MN}{yc pc lc E Lv Gp O Y Lp:Ly}{h8:LJ}(k0:ws.length<=1000)(c8:∀c:Lx LJ,(∀y∈c,y∈ws)->c.length<=ws.length->FH M l c) :∀(m:Ly) (now:Lx LJ) (p:Ly) (nb:LU MN) (nc:Ly) (wq:Lt) (N:Lx LJ),m+now.length<=ws.length->(∀y∈now,y∈ws)->pM wq E Lv Gp O Y Lp lb lc ws->jZ wq O Y Lp yb M yc h8 pb l pc->Out wq O N ->ai 0 wq.heap.size wq (.slice nb now.length nc) now->bh wq (.slice nb now.length nc)->now.length<=nc->(now≠[]\/MU nb now.length nc=.slice Lw 0 0)->p<=1000 ->EC Ya Ma f Post W 136 #[.slice nb now.length nc,p,m,.pointer (Lq E),.pointer (Lq Lv),.pointer (Lq Gp)] wq (GrR M l ws O m now p N wq):=by
 have j:Ya.funcs[(Mo 136).fn]?=Tryz.prog.funcs[(Mo 136).fn]?:=bG 136 (by decide);intro m;induction m with
 | zero=>
  intro now p nb nc wq N b9 w hG hW hO hN d7 b8 b7 l8;refine EC.of_body1 D (fn:=Td) (c0:=Tryz.f136.body.getD .skip) (t:=9) Tp.x136 XU (by kernel_rfl) rfl λcs a r=>?_;have HR:=Lu r;clear r;simp only[Td,LQ];walk_nrm;refine EL.sp D a j λT=>?_;go_wp2;refine EL.tape (wq:=wq) ?_ T;refine EL.seq D a j ?_;refine EL.sp D a j λT=>?_;go_wp2;refine EL.tape (wq:=wq) ?_ T;refine EL.cond D a j LG (by rfl) ?_;simp only[if_true];refine EL.seq D a j ?_;refine EL.region D a j ?_;simp only[Mt,LX,Mj,Ms,Mn,Mr,MY];have l9:=aa (o:=0) hG.en rfl;refine EL.list D a j [0,1] [_,_] (rest:=[2,3]) rfl λT=>?_;have c1:(wq.tp T).cell? E=Lq (.func (.func 83) #[] #[.pointer (Lq O),.pointer (Lq Y),.pointer (Lq Lp)]):=l9;go_wp2;refine EL.tape (wq:=wq) ?_ T;refine EL.enter D a j (fk:=83) (args:=#[.slice nb now.length nc,.pointer (Lq O),.pointer (Lq Y),.pointer (Lq Lp)]) rfl rfl (λT=>by rw[ju (f:=83) rfl rfl Tp.x83 (by kernel_rfl) rfl];walk_nrm) (bG 83 (by decide)) ?_;refine Ld D k6 l4 l5 l7 hW hN d7 b7 (c8 now w (by omega)) _ cs a j λv u hR=>?_;obtain⟨d,rfl,Z,H,b,n,c,k8,k7⟩:=hR;rw[Ow];walk_nrm;refine EL.list D a j [3] [_] (rest:=[]) rfl λT=>?_;go_wp2;refine EL.tape (wq:=u) ?_ T;refine EL.region_end D a j ?_;refine EL.retS D a j ?_;refine HR _ _ u ⟨!d,now,?_,rfl,H,b,n,c,k8,k7⟩;simp only[cM,dp,vR Z];cases d<;>rfl
 | succ m ih=>
  intro now p nb nc wq N b9 w hG hW hO hN d7 b8 b7 l8;refine EC.of_body1 D (fn:=Td) (c0:=Tryz.f136.body.getD .skip) (t:=9) Tp.x136 XU (by kernel_rfl) rfl λcs a r=>?_;have HR:=Lu r;clear r;have w8:((m:LJ)+1 == 0)=LH:=by
   rw[beq_eq_false_iff_ne];omega
  have Q:∀(d:Ly) (i:Ly) (z:LM LA) (u:Lt) (o:Lx LJ),d=ws.length - i->i<=1001->z.size=41->z[0]?=Lq (.slice nb now.length nc)->z[2]?=Lq (.int .i64 (m+1:Ly))->z[3]?=Lq (.pointer (Lq E))->z[4]?=Lq (.pointer (Lq Lv))->z[5]?=Lq (.pointer (Lq Gp))->z[10]?=Lq (.int .i64 i) ->
    (wq.tp u.tape).gb u (Lq O)->Out u O o->dp (fS M l) (cM ws (m+1) now p) N=dp (fS M l) (cM ws (m+1) now i) o ->
    EL Ya Ma f Post W (G ((Mo 136).at ⟨z,[]⟩ (.code (sub [1,1,0,1,0,0] (Tryz.f136.body.getD .skip))::.inLoop (sub [1,1,0,1,0,0] (Tryz.f136.body.getD .skip))::.inBlock 0::.code (sub [1,1,1] (Tryz.f136.body.getD .skip))::[])) cs) u:=by
   intro d;induction d with
   | zero=>
    intro i z u o Z hi hz h0 h2 h3 h4 h5 C H B F;obtain⟨y0,y1,y2,y3,y4,y5,y6,y7,y8,y9,g8,y11,y12,y13,y14,y15,y16,y17,y18,y19,y20,y21,y22,y23,y24,y25,y26,y27,y28,y29,y30,y31,y32,y33,y34,y35,y36,y37,y38,y39,y40,rfl⟩:=Ie z hz;clear hz;simp at h0 h2 h3 h4 h5 C;subst h0 h2 h3 h4 h5 C;have e8:=Lu F;have U:=aa (o:=0) (hG.gw H hO).ls rfl;have k9:¬ (i:LJ)<(ws.length:LJ):=by omega
    have x0:ws.length<=i:=by omega
    clear Z;simp only[Td,LQ,sub];refine EL.seq D a j ?_;refine EL.sp D a j λT=>?_;have c1:(u.tp T).cell? Lv=Lq (.slice lb ws.length lc):=U;go_wp2;refine EL.tape (wq:=u) ?_ T;refine EL.cond D a j LH (by rfl) ?_;simp only[if_false,Mx];refine EL.exit D a j rfl ?_;refine EL.sp D a j λT=>?_;go_wp2;refine EL.tape (wq:=u) ?_ T;refine EL.retS D a j ?_;refine HR _ _ u ⟨LH,o,?_,rfl,H,B⟩;rw[F,tL (by omega)];rfl
   | succ d R=>
    intro i z u o Z hi hz h0 h2 h3 h4 h5 C H B F;obtain⟨y0,y1,y2,y3,y4,y5,y6,y7,y8,y9,g8,y11,y12,y13,y14,y15,y16,y17,y18,y19,y20,y21,y22,y23,y24,y25,y26,y27,y28,y29,y30,y31,y32,y33,y34,y35,y36,y37,y38,y39,y40,rfl⟩:=Ie z hz;clear hz;simp at h0 h2 h3 h4 h5 C;subst h0 h2 h3 h4 h5 C;have e8:=Lu F;have I:=hG.gw H hO;have U:=aa (o:=0) I.ls rfl;have s:i<ws.length:=by omega
    have k9:(i:LJ)<(ws.length:LJ):=by omega
    have HD:=Lu Z;clear Z;have m6:=hN.gr H hO;have H6:=λk (a1 a3 a6 a7 a8 a9 s5 s4 s3 s2 s1 r9 r8 r7 r6 r5 r4 r3 q9 q8 q7 q6 q5 q0 p9 p8 p7 p6 p5 p4 p3 n9 n8 n7 n6 n4:LA) LB P m9 x hx c3=>KR (f:=f) (Post:=Post) (W:=W) (cs:=cs) (k:=k) (y1:=a1) (y3:=a3) (y6:=a6) (y7:=a7) (y8:=a8) (y9:=a9) (y11:=s5) (y12:=s4) (y13:=s3) (y14:=s2) (y15:=s1) (y16:=r9) (y17:=r8) (y18:=r7) (y19:=r6) (y20:=r5) (y21:=r4) (y22:=r3) (y23:=q9) (y24:=q8) (y25:=q7) (y26:=q6) (y27:=q5) (y28:=q0) (y29:=p9) (y30:=p8) (y31:=p7) (y32:=p6) (y33:=p5) (y34:=p4) (y35:=p3) (y36:=n9) (y37:=n8) (y38:=n7) (y39:=n6) (y40:=n4) D a (u:=u) (E:=E) (Lv:=Lv) (Gp:=Gp) (O:=O) (Y:=Y) (Lp:=Lp) (LB:=LB) (lo:=P) (nb:=nb) (lc:=lc) (nc:=nc) (i:=i) (m:=m) (ws:=ws) (now:=now) (x:=x) m9 m6 b8 s hx (by omega) (by omega) k0 c3;simp only[Td,LQ,sub,yP] at H6 R ⊢;have s9:=Lu H6;clear H6;have s7:=Lu R;clear R;refine EL.seq D a j ?_;refine EL.sp D a j λT=>?_;have c1:(u.tp T).cell? Lv=Lq (.slice lb ws.length lc):=U;go_wp2;refine EL.tape (wq:=u) ?_ T;refine EL.cond D a j LG (by rfl) ?_;simp only[if_true];refine EL.skip D a j ?_;refine EL.seq D a j ?_;refine EL.block D a j ?_;refine EL.seq D a j ?_;obtain⟨b1,x2,he,-,X⟩:=I.wsI.cell;cases he;obtain⟨LB,P,rfl,-,-,-,n2⟩:=X (by intro e;rw[e] at s;simp at s);have hx:=n2 i s;refine s9 _ _ _ _ _ _ _ _ _ _ _ _ _ _ _ _ _ _ _ _ _ _ _ _ _ _ _ _ _ _ _ _ _ _ _ _ _ LB P I _ hx ?_;intro g e7 u' q1 q2 q3 q4;generalize b6:ws[i]?.getD 0=x at hx q3 q4;have gU:(u.tp u'.tape).gb u' (Lq O):=Ja _ q2;have d5:=B.kept q2;have m8:=I.gw gU B;have m3:=(hW.gr H B).gr gU d5;have S:∀y∈now++[x],y∈ws:=by
     intro y hy;rcases Ob.1 hy with h | h
     ·exact w y h
     ·obtain rfl:=Nl.1 h;rw[<- b6,LO s];exact Qo s
    have q:(now++[x]).length=now.length+1:=by simp
    have V:=ih (now++[x]) (i+1) (Lq ⟨g,0,Lw⟩) e7 u' o (by rw[q];omega) S m8 m3 d5 (by rw[q];exact q3) (by rw[q];exact q4) (by rw[q];exact q1) (.inl (by simp)) (by omega);rw[q] at V;have s8:=Lu V;clear V;refine EL.enter D a j (fk:=136) (args:=#[.slice (Lq ⟨g,0,Lw⟩) (now.length+1) e7,.int .i64 (i+1:Ly),m,.pointer (Lq E),.pointer (Lq Lv),.pointer (Lq Gp)]) rfl rfl (λT=>by rw[ju (f:=136) rfl rfl Tp.x136 (by kernel_rfl) rfl];walk_nrm) (bG 136 (by decide)) ?_;refine s8 _ cs a j λv u2 hR=>?_;obtain⟨b,o2,k5,rfl,l6,c9⟩:=hR;rw[Ow];walk_nrm;have A:(wq.tp u2.tape).gb u2 (Lq O):=gb (gb H gU) l6;have L:dp (fS M l) (cM ws (m+1) now p) N=if b=LG then(b,o2) else dp (fS M l) (cM ws (m+1) now (i+1)) o2:=by
     rw[e8,mo s,b6,sM,k5]
    refine EL.region_end D a j ?_;cases b with
    | true=>
     refine EL.cond D a j LG (by rfl) ?_;simp only[if_true];refine EL.sp D a j λT=>?_;go_wp2;refine EL.tape (wq:=u2) ?_ T;refine EL.retS D a j ?_;exact HR _ _ u2 ⟨LG,o2,L,rfl,A,c9⟩
    | false=>
     refine EL.cond D a j LH (by rfl) ?_;simp only[if_false,Mx];refine EL.skip D a j ?_;refine EL.inBlock D a j ?_;have w6:IntKind.i64.wrap ((i:LJ)+1)=((i+1:Ly):LJ):=by simp[RU];omega
     refine EL.piece D a j λT=>?_;go_wp2;refine EL.tape (wq:=u2) ?_ T;refine EL.inLoop D a j ?_;exact s7 (i+1) _ u2 o2 (by have:=HD.out;omega) (by omega) (by rfl) (by rfl) (by rfl) (by rfl) (by rfl) (by rfl) (by rfl) A c9 L
  simp only[Td,LQ,sub] at Q ⊢;have s6:=Lu Q;clear Q;walk_nrm;refine EL.sp D a j λT=>?_;go_wp2;refine EL.tape (wq:=wq) ?_ T;refine EL.seq D a j ?_;refine EL.sp D a j λT=>?_;go_wp2;refine EL.tape (wq:=wq) ?_ T;refine EL.cond D a j LH (by rfl) ?_;simp only[if_false,Mx];refine EL.skip D a j ?_;refine EL.seq D a j ?_;refine EL.sp D a j λT=>?_;go_wp2;refine EL.tape (wq:=wq) ?_ T;refine EL.block D a j ?_;refine EL.loop D a j ?_;exact s6 (ws.length - p) p _ wq N rfl (by omega) (by rfl) (by rfl) (by rfl) (by rfl) (by rfl) (by rfl) (by rfl) (nt _ _) hO rfl
end
end
section
open Go Go.RowKit Go.Co Go.Sim Go.Conc Go.ConcN
def If(x:LM LA)(h:x.size=21):∃A z y w v u s r q p o n l k j i g d c b a,x=#[A,z,y,w,v,u,s,r,q,p,o,n,l,k,j,i,g,d,c,b,a]:=by
 have e:=jI x;rw[h] at e;exact⟨_,_,_,_,_,_,_,_,_,_,_,_,_,_,_,_,_,_,_,_,_,e.t rfl⟩
def tpg{w u:Lt}{T:Ly->NU->Ly}{r:LU Ly}(h:(w.tp T).gb u r):(w.tp u.tape).gb u r:=⟨h.os,rfl,h.output,h.size,h.block⟩
def zp{w u v:Lt}{O:Ly}(h:(w.tp u.tape).gb u Lw)(k:(u.tp v.tape).gb v (Lq O))(b:w.heap.size<=O):(w.tp v.tape).gb v Lw :=
 ⟨k.os.trans h.os,rfl,k.output.trans h.output,LN h.size k.size,λi a _=>(k.block i (LY a h.size) (by intro e;cases e;exact absurd a (by show ¬ O<w.heap.size;omega))).t (h.block i a (by simp))⟩
def jZ.knone{w u:Lt}{O Y L:Ly}{e:LU MN}{g:Lx Par}{d:Ly}{a:LJ}{j:LU MN}{l:Lx LJ}{i:Ly}(h:jZ w O Y L e g d a j l i)(k:(w.tp u.tape).gb u Lw):jZ u O Y L e g d a j l i:=by
 have⟨b,n,c,o⟩:=h.out;exact(h.tp _).kept (k.but _) ⟨b,n,c,bk k o⟩
def ai.knone{w u:Lt}{v:LA}{l:Lx LJ}(h:ai 0 w.heap.size w v l)(a:(w.tp u.tape).gb u Lw):ai 0 u.heap.size u v l:=(ai.kept (w:=w.tp u.tape) h a (by simp)).mono (LC _) a.size
section
variable[J:JunkSet]{f:Nh}{Post:LA->Lt->Prop}{W:Lt}
def Lf(D:Two Ya Ma)(r4:JunkSet.okf 137)(r8:∀i,¬ JunkSet.jk i)(r9:Ya.inits.idxOf? f=Lw)(s2:∃g,Ya.funcs[f]?=Lq g/\Tryz.prog.funcs[f]?=Lq g){ps:Lx Par}{l q o0:Lx LJ}{yb F:LU MN}{yc C O Y Lp:Ly}{q3:LJ}(q9:q.length<=1000)(k8:∀c:Lx LJ,(∀y∈c,y∈q)->c.length<=q.length->FH ps l c)(hS:nH l q){wq:Lt}(hW:jZ wq O Y Lp yb ps yc q3 F l C)(hO:Out wq O o0) :EC Ya Ma f Post W 82 #[.slice F l.length C,.func (.func 83) #[] #[.pointer (Lq O),.pointer (Lq Y),.pointer (Lq Lp)]] wq λv u=>∃b o,dp (fS ps l) (cy q 0) o0=(b,o)/\v=.bool b/\(wq.tp u.tape).gb u (Lq O)/\Out u O o:=by
 have j:Ya.funcs[(Mo 82).fn]?=Tryz.prog.funcs[(Mo 82).fn]?:=bG 82 (by decide);refine EC.of_body1 D (fn:=US) (c0:=Tryz.f82.body.getD .skip) (t:=4) Tp.x82 Tryz.func82 (by kernel_rfl) rfl λcs p b7=>?_;have HR:=Lu b7;clear b7;have t6:O<wq.heap.size:=by have⟨b,n,c,h1⟩:=hW.out;exact(Lz.1 h1).1
 simp only[US,LQ];walk_nrm;refine EL.sp D p j λT=>?_;go_wp2;obtain⟨h,N⟩:∃h,h=(wq.tp T).heap.size:=⟨_,rfl⟩;rw[<- N];have g1:(wq.tp T).gb (((wq.tp T).alloc (.cells #[.slice F l.length C] 29)).alloc (.cells #[.func (.func 83) #[] #[.pointer (Lq O),.pointer (Lq Y),.pointer (Lq Lp)]] 51)) Lw:=(Lr _ _ Lw).t (Lr _ _ Lw);have l1:(((wq.tp T).alloc (.cells #[.slice F l.length C] 29)).alloc (.cells #[.func (.func 83) #[] #[.pointer (Lq O),.pointer (Lq Y),.pointer (Lq Lp)]] 51)).heap[h]?=Lq (.cells #[.slice F l.length C] 29 (0,0)):=by rw[N];exact aD (LS (wq.tp T) _)
 have e1:(((wq.tp T).alloc (.cells #[.slice F l.length C] 29)).alloc (.cells #[.func (.func 83) #[] #[.pointer (Lq O),.pointer (Lq Y),.pointer (Lq Lp)]] 51)).heap[h+1]?=Lq (.cells #[.func (.func 83) #[] #[.pointer (Lq O),.pointer (Lq Y),.pointer (Lq Lp)]] 51 (0,0)):=by
  have:=LS ((wq.tp T).alloc (.cells #[.slice F l.length C] 29)) (.cells #[.func (.func 83) #[] #[.pointer (Lq O),.pointer (Lq Y),.pointer (Lq Lp)]] 51);rw[Mc] at this;rw[N];exact this
 generalize ((wq.tp T).alloc (.cells #[.slice F l.length C] 29)).alloc (.cells #[.func (.func 83) #[] #[.pointer (Lq O),.pointer (Lq Y),.pointer (Lq Lp)]] 51)=u1 at g1 l1 e1 ⊢;have d9:=tpg g1;have l5:=hW.ints.knone d9;clear g1;have g5:=Lu (show h=wq.heap.size from N);show EL _ _ _ _ _ _ _;clear N;refine EL.sp D p j λT=>?_;have c1:(u1.tp T).cell? h=Lq (.slice F l.length C):=aa l1 rfl;have⟨g6,m7,m6⟩:=bL l1 e1 d9;have g7:=Lu (show ai 0 (u1.tp T).heap.size (u1.tp T) (.slice F l.length C) l from l5);have P:h<(u1.tp T).heap.size:=(Lz.1 l1).1;clear l1 e1 d9 l5;obtain⟨A,I⟩:∃A,A=u1.tp T:=⟨_,rfl⟩;rw[<- I] at g7 c1 P ⊢;have HU:=Lu I;clear I;have k6:A.frozen? ⟨h,0,Lw⟩=LH:=by rw[HU];exact aB g6
 go_wp2_with (first
  | (go_at_call 135;refine(lQ _ _ _ _).mono ?_;rintro e w2 ⟨rfl,rfl⟩)
  | (go_at_call 134;refine(hS A.heap.size (.slice F l.length C) _ (by simp) (by rw[gS];rfl) ((g7.alloc _).mono (LC _) (by simp))).mono ?_;rintro e w2 ⟨v,rfl,e6,b8,H⟩;obtain⟨Z,V,rfl,-,-⟩:=e6.cell;have c2:=(((Lr A (.cells #[.slice F l.length C] 29) Lw).t H).cl c1);have z2:=(((Lr A (.cells #[.slice F l.length C] 29) Lw).t H).frozen_far _ P (by simp)).t k6;have m4:=Lu e6;have b0:=Lu ((Lr A (.cells #[.slice F l.length C] 29) Lw).t H);have t2:=Lu b8;clear e6 b8 H))
 have r:=an w2 h 0 (.slice Z q.length V);have c8:w2.heap[h]?=Lq (.cells #[.slice F l.length C] 29 (0,0)):=bk b0 (by rw[HU];exact g6);have l2:(w2.setCell h (.slice Z q.length V)).heap[h]?=Lq (.cells #[.slice Z q.length V] 29 (0,0)):=by rw[ar c8];rfl
 have s7:=blk (X:=h+1) b0 (by simp) (by rw[HU];exact m7);have e2:=bk r s7;have i2:=(m4.kept r (λR e=>by cases e;left;rw[Mc];omega)).mono (Mw _) r.size;have e8:(wq.tp (w2.setCell h (.slice Z q.length V)).tape).gb (w2.setCell h (.slice Z q.length V)) Lw:=by
  have a:=b0.out;rw[HU] at a;exact zp m6 (tpg ((a.but (Lq h)).t r)) (by rw[g5];exact LC _)
 show EL _ _ _ _ _ _ _;generalize w2.setCell h (.slice Z q.length V)=u2 at r l2 e2 i2 e8 ⊢;clear c8 m4 b0 t2 c2 z2 r k6 HU g7 c1 P m6 m7 g6;refine EL.sp D p j λT=>?_;go_wp2;obtain⟨s,a7⟩:∃s,s=(u2.tp T).heap.size:=⟨_,rfl⟩;rw[<- a7];have g3:(u2.tp T).gb ((u2.tp T).alloc (.cells #[.nilFunc] 151)) Lw:=Lr _ _ Lw;have p3:((u2.tp T).alloc (.cells #[.nilFunc] 151)).heap[s]?=Lq (.cells #[.nilFunc] 151 (0,0)):=by rw[a7];exact LS (u2.tp T) _
 have l3:=bk g3 (show(u2.tp T).heap[h]?=_ from l2);have e3:=bk g3 (show(u2.tp T).heap[h+1]?=_ from e2);have e7:=gb e8 (tpg g3);have i3:=i2.knone (tpg g3);have x8:h<s:=by rw[a7];exact(Lz.1 l2).1
 show EL _ _ _ _ _ _ _;generalize (u2.tp T).alloc (.cells #[.nilFunc] 151)=u3 at g3 p3 l3 e3 e7 i3 ⊢;clear g3 l2 e2 i2 a7 e8;refine EL.sp D p j λT=>?_;have c3:(u3.tp T).cell? s=Lq .nilFunc:=aa p3 rfl;have z3:(u3.tp T).frozen? ⟨s,0,Lw⟩=LH:=aB p3;have x1:∀(a:MN) (fn:Fn) (x y:LM LA) (m:Mode) (w:Lt),(store a (.func fn x y) m).run Ya w=stored Ya w a (.func fn x y) m:=λa fn x y m w=>run_store _ w a _ m rfl;go_wp2;have r:=an (u3.tp T) s 0 (.func (.func 136) #[] #[.pointer (Lq (h+1:Ly)),.pointer (Lq h),.pointer (Lq s)]);have p4:((u3.tp T).setCell s (.func (.func 136) #[] #[.pointer (Lq (h+1:Ly)),.pointer (Lq h),.pointer (Lq s)])).heap[s]?=Lq (.cells #[.func (.func 136) #[] #[.pointer (Lq (h+1:Ly)),.pointer (Lq h),.pointer (Lq s)]] 151 (0,0)):=by
  rw[ar (show(u3.tp T).heap[s]?=_ from p3)];rfl
 have l4:=blk r (by simp;omega) (show(u3.tp T).heap[h]?=_ from l3);have e4:=blk r (λe=>gM (show(u3.tp T).heap[h+1]?=_ from e3) (show(u3.tp T).heap[s]?=_ from p3) (by decide) (by cases e;rfl)) (show(u3.tp T).heap[h+1]?=_ from e3);have i4:ai 0 ((u3.tp T).setCell s (.func (.func 136) #[] #[.pointer (Lq (h+1:Ly)),.pointer (Lq h),.pointer (Lq s)])).heap.size ((u3.tp T).setCell s (.func (.func 136) #[] #[.pointer (Lq (h+1:Ly)),.pointer (Lq h),.pointer (Lq s)])) (.slice Z q.length V) q:=by
  obtain⟨base,s8,e,hl,hr⟩:=i3;refine⟨base,s8,e,hl,λr6=>?_⟩;have⟨B,o,cs,fr,e1,e2,e3,e4,e5⟩:=hr r6;exact⟨B,o,cs,fr,e1,e2,LY e3 r.size,blk r (λe=>gM (show(u3.tp T).heap[B]?=_ from e4) (show(u3.tp T).heap[s]?=_ from p3) (by decide) (by cases e;rfl)) e4,e5⟩
 have U:=zp e7 (tpg r) (by have:=g5.out;omega);show EL _ _ _ _ _ _ _;generalize (u3.tp T).setCell s (.func (.func 136) #[] #[.pointer (Lq (h+1:Ly)),.pointer (Lq h),.pointer (Lq s)])=u4 at r p4 l4 e4 i4 U ⊢;clear r c3 z3 p3 l3 e3 e7 i3;have hG:pM u4 (h+1) h s O Y Lp Z V q:=⟨e4,l4,i4,p4,by have:=g5.out;omega⟩;have s4:=hW.knone U;have k9:=hO.kept U;have m5:=Lu U;clear e4 i4 p4 U;have d7:∀(d:Ly) (k:Ly) (z:LM LA) (u:Lt) (o:Lx LJ),d=q.length+1 - k->k<=q.length+1->z.size=21->z[5]?=Lq (.pointer (Lq s))->z[13]?=Lq (.int .i64 (q.length+1:Ly))->z[14]?=Lq (.int .i64 k) ->
   (u4.tp u.tape).gb u (Lq O)->Out u O o->dp (fS ps l) (cy q 0) o0=dp (fS ps l) (cy q k) o ->
   EL Ya Ma f Post W (G ((Mo 82).at ⟨z,[]⟩ (.code (sub [1,1,1,1,0,1,0,0] (Tryz.f82.body.getD .skip))::.inLoop (sub [1,1,1,1,0,1,0,0] (Tryz.f82.body.getD .skip))::.inBlock 0::.code (sub [1,1,1,1,1] (Tryz.f82.body.getD .skip))::[])) cs) u:=by
  intro d;induction d with
  | zero=>
   intro k z u o hd hk hz h5 S Q hg a6 L;obtain⟨y0,y1,y2,y3,y4,y5,y6,y7,y8,y9,q1,q0,p9,p8,p7,p6,p5,n9,n8,n7,n6,rfl⟩:=If z hz;clear hz;simp at h5 S Q;subst h5 S Q;have e9:=Lu L;have r5:¬ (k:LJ)<(q.length:LJ)+1:=by omega
   have s1:q.length+1<=k:=by omega
   clear hd L;simp only[US,LQ,sub];refine EL.sp D p j λT=>?_;go_wp2;refine EL.tape (wq:=u) ?_ T;refine EL.seq D p j ?_;refine EL.cond D p j LH (by rfl) ?_;simp only[if_false,Mx];refine EL.exit D p j rfl ?_;refine EL.sp D p j λT=>?_;go_wp2;refine EL.tape (wq:=u) ?_ T;refine EL.retS D p j ?_;refine HR _ _ u ⟨LH,o,?_,rfl,gb (Ja _ m5) hg,a6⟩;rw[e9,vS s1];rfl
  | succ d d8=>
   intro k z u o hd hk hz h5 S Q hg a6 L;obtain⟨y0,y1,y2,y3,y4,y5,y6,y7,y8,y9,q1,q0,p9,p8,p7,p6,p5,n9,n8,n7,n6,rfl⟩:=If z hz;clear hz;simp at h5 S Q;subst h5 S Q;have e9:=Lu L;have r5:(k:LJ)<(q.length:LJ)+1:=by omega
   have r7:k<q.length+1:=by omega
   have HD:=Lu hd;clear hd L;have l6:=hG.gw hg k9;have s3:=s4.gr hg a6;simp only[US,LQ,sub] at d8 ⊢;have t1:=Lu d8;clear d8;refine EL.sp D p j λT=>?_;go_wp2;refine EL.tape (wq:=u) ?_ T;refine EL.seq D p j ?_;refine EL.cond D p j LG (by rfl) ?_;simp only[if_true];refine EL.skip D p j ?_;refine EL.seq D p j ?_;refine EL.block D p j ?_;refine EL.sp D p j λT=>?_;go_wp2;refine EL.tape (wq:=u) ?_ T;refine EL.seq D p j ?_;refine EL.region D p j ?_;simp only[Mt,LX,Mj,Ms,Mn,Mr,MY];refine EL.list D p j [0,1] [_,_] (rest:=[2]) rfl λT=>?_;have c1:(u.tp T).cell? s=Lq (.func (.func 136) #[] #[.pointer (Lq (h+1:Ly)),.pointer (Lq h),.pointer (Lq s)]):=aa l6.gr rfl;go_wp2;refine EL.tape (wq:=u) ?_ T;refine EL.enter D p j (fk:=136) (args:=#[.slice Lw ([]:Lx LJ).length 0,.int .i64 (0:Ly),k,.pointer (Lq (h+1:Ly)),.pointer (Lq h),.pointer (Lq s)]) rfl rfl (λT=>by rw[ju (f:=136) rfl rfl Tp.x136 (by kernel_rfl) rfl];walk_nrm;rfl) (bG 136 (by decide)) ?_;refine Kn D r4 r8 r9 s2 q9 k8 k [] 0 Lw 0 u o (by simp;omega) (by simp) l6 s3 a6 (ai.nil _ _ _) (λad n c e=>by cases e) (LC _) (.inr rfl) (by omega) _ cs p j λv u2 hR=>?_;obtain⟨b,o2,r3,rfl,H,b9⟩:=hR;rw[Ow];walk_nrm;have M:(u4.tp u2.tape).gb u2 (Lq O):=gb hg H;have b6:dp (fS ps l) (cy q 0) o0=if b=LG then(b,o2) else dp (fS ps l) (cy q (k+1)) o2:=by
    rw[e9,nP r7,sM,r3]
   refine EL.region_end D p j ?_;cases b with
   | true=>
    refine EL.cond D p j LG (by rfl) ?_;simp only[if_true];refine EL.sp D p j λT=>?_;go_wp2;refine EL.tape (wq:=u2) ?_ T;refine EL.retS D p j ?_;exact HR _ _ u2 ⟨LG,o2,b6,rfl,gb (Ja _ m5) M,b9⟩
   | false=>
    refine EL.cond D p j LH (by rfl) ?_;simp only[if_false,Mx];refine EL.skip D p j ?_;refine EL.inBlock D p j ?_;have x0:IntKind.i64.wrap ((k:LJ)+1)=((k+1:Ly):LJ):=by simp[RU];omega
    refine EL.piece D p j λT=>?_;go_wp2;refine EL.tape (wq:=u2) ?_ T;refine EL.inLoop D p j ?_;exact t1 (k+1) _ u2 o2 (by have:=HD.out;omega) (by omega) (by rfl) (by rfl) (by rfl) (by rfl) M b9 b6
 simp only[US,LQ,sub] at d7;have s9:=Lu d7;clear d7;have w9:IntKind.i64.wrap ((q.length:LJ)+1)=((q.length+1:Ly):LJ):=by simp[RU];omega
 refine EL.seq D p j ?_;refine EL.sp D p j λT=>?_;have c4:(u4.tp T).cell? h=Lq (.slice Z q.length V):=aa l4 rfl;go_wp2;refine EL.tape (wq:=u4) ?_ T;refine EL.block D p j ?_;refine EL.loop D p j ?_;exact s9 (q.length+1) 0 _ u4 o0 rfl (by omega) (by rfl) (by rfl) (by rfl) (by rfl) (nt _ _) k9 rfl
end
end
section
open Go Go.RowKit Go.Co Go.Sim Go.Conc Go.ConcN
def aC.knone{w u:Lt}{v:LA}{l:Lx Par}(h:aC 0 w.heap.size w v l)(a:(w.tp u.tape).gb u Lw):aC 0 u.heap.size u v l:=(aC.kept (w:=w.tp u.tape) h a (by simp)).mono (LC _) a.size
def bh.knone{w u:Lt}{v:LA}(h:bh w v)(a:(w.tp u.tape).gb u Lw):bh u v:=λj n c e=>by
 have⟨i,g,f,d,b⟩:=h j n c e;exact⟨i,g,f,bk a d,b⟩
section
variable[J:JunkSet]{f:Nh}{Post:LA->Lt->Prop}{W:Lt}
def EC.of_body2(D:Two Ya Ma){e:Nh}{fn:Func}{c0:Og}{b:LM LA}{j:Lt}{R:LA->Lt->Prop}{t t':Ly}(n:Ya.funcs[e]?=Lq fn)(l:Tryz.prog.funcs[e]?=Lq fn)(i:fn.body=Lq c0)(k:fn.results=#[.tmp t,.tmp t'])(h:∀g,Bot f g->(∀c a u,R (.tuple #[c.getD t LI,c.getD t' LI]) u->EL Ya Ma f Post W (G { (Mo e).at ⟨c,[]⟩ a with mode:=.returning } g) u) ->EL Ya Ma f Post W (G ((Mo e).at ⟨b++MR (fn.ntmps - b.size) LI,[]⟩ [.code c0]) g) j):EC Ya Ma f Post W e b j R :=
 EC.of_body D n l i λg o d=>h g o λc a u p=>d ⟨c,[]⟩ a u _ rfl (λT=>results_tmp2 k _ _ _) p
def Lg(D:Two Ya Ma)(b0:JunkSet.okf 137)(b7:∀i,¬ JunkSet.jk i)(b8:Ya.inits.idxOf? f=Lw)(c9:∃g,Ya.funcs[f]?=Lq g/\Tryz.prog.funcs[f]?=Lq g){d:Lx Par}{l ws:Lx LJ}{j n:LU MN}{h k:Ly}{a:LJ}(a7:ws.length<=1000)(I:∀c:Lx LJ,(∀y∈c,y∈ws)->c.length<=ws.length->FH d l c)(hS:nH l ws)(hY:YOk d a)(hP:POk d a l){wq:Lt}(A:aC 0 wq.heap.size wq (.slice j d.length h) d)(yi:bh wq (.slice j d.length h))(B:ai 0 wq.heap.size wq (.slice n l.length k) l)(pi:bh wq (.slice n l.length k))(h0:bq wq 0) :EC Ya Ma f Post W 29 #[.agg #[.slice j d.length h,a],.slice n l.length k] wq λv u=>∃o s,v=.tuple #[s,.int .i64 0]/\(∃b,dp (fS d l) (cy ws 0) []=(b,o))/\(wq.tp u.tape).gb u Lw/\ai 0 u.heap.size u s o:=by
 have p:Ya.funcs[(Mo 29).fn]?=Tryz.prog.funcs[(Mo 29).fn]?:=bG 29 (by decide);refine EC.of_body2 D (fn:=Tryz.f29) (c0:=Tryz.f29.body.getD .skip) (t:=4) (t':=5) Tp.x29 Tryz.func29 (by kernel_rfl) rfl λcs q C=>?_;have HR:=Lu C;clear C;simp only[Tryz.f29,LQ];walk_nrm;refine EL.sp D q p λT=>?_;go_wp2;obtain⟨X,L⟩:∃X,X=(wq.tp T).heap.size:=⟨_,rfl⟩;rw[<- L];have g1:(wq.tp T).gb (((wq.tp T).alloc (.cells #[.slice j d.length h,a] 24)).alloc (.cells #[.slice n l.length k] 29)) Lw:=(Lr _ _ Lw).t (Lr _ _ Lw);have Q:(((wq.tp T).alloc (.cells #[.slice j d.length h,a] 24)).alloc (.cells #[.slice n l.length k] 29)).heap[X]?=Lq (.cells #[.slice j d.length h,a] 24 (0,0)):=by rw[L];exact aD (LS (wq.tp T) _)
 have U:(((wq.tp T).alloc (.cells #[.slice j d.length h,a] 24)).alloc (.cells #[.slice n l.length k] 29)).heap[X+1]?=Lq (.cells #[.slice n l.length k] 29 (0,0)):=by
  have:=LS ((wq.tp T).alloc (.cells #[.slice j d.length h,a] 24)) (.cells #[.slice n l.length k] 29);rw[Mc] at this;rw[L];exact this
 show EL _ _ _ _ _ _ _;generalize ((wq.tp T).alloc (.cells #[.slice j d.length h,a] 24)).alloc (.cells #[.slice n l.length k] 29)=u1 at g1 Q U ⊢;have x:=tpg g1;clear g1;have HX:=Lu (show X=wq.heap.size from L);clear L;refine EL.sp D q p λT=>?_;have c1:(u1.tp T).cell? X=Lq (.slice j d.length h):=aa Q rfl;have c2:(u1.tp T).cell? ⟨X,1,Lw⟩=Lq (.int .i64 a):=aa Q rfl;have c3:(u1.tp T).cell? (X+1:Ly)=Lq (.slice n l.length k):=aa U rfl;have M:=Lu (show aC 0 (u1.tp T).heap.size (u1.tp T) (.slice j d.length h) d from(show aC 0 u1.heap.size u1 (.slice j d.length h) d from A.knone x));have N:=Lu (show ai 0 (u1.tp T).heap.size (u1.tp T) (.slice n l.length k) l from(show ai 0 u1.heap.size u1 (.slice n l.length k) l from B.knone x));go_wp2_with (go_at_call 81;refine(fA 0 _ _ _ d a l _ M N (LC _) hY hP).mono ?_;rintro e R ⟨rfl,H⟩;have P:=Lu H;clear H);obtain⟨Y,F⟩:∃Y,Y=R.heap.size:=⟨_,rfl⟩;rw[<- F];have w:(u1.tp T).gb (R.alloc (.cells #[.slice j d.length h,a] 91)) Lw:=P.out.t (Lr _ _ Lw);have G:=gb x (tpg w);have V:(R.alloc (.cells #[.slice j d.length h,a] 91)).heap[Y]?=Lq (.cells #[.slice j d.length h,a] 91 (0,0)):=by rw[F];exact LS _ _
 have S:=bk w (show(u1.tp T).heap[X+1]?=_ from U);show EL _ _ _ _ _ _ _;generalize R.alloc (.cells #[.slice j d.length h,a] 91)=u2 at w G V S ⊢;clear w F P c1 c2 c3 M N Q U x;refine EL.seq D q p ?_;refine EL.sp D q p λT=>?_;go_wp2;refine EL.tape (wq:=u2) ?_ T;refine EL.cond D q p LH (by rfl) ?_;simp only[if_false,Mx];refine EL.skip D q p ?_;refine EL.sp D q p λT=>?_;go_wp2;obtain⟨O,z⟩:∃O,O=(u2.tp T).heap.size:=⟨_,rfl⟩;rw[<- z];have w:(u2.tp T).gb ((u2.tp T).alloc (.cells #[.slice Lw 0 0] 29)) Lw:=Lr _ _ Lw;have r:=gb G (tpg w);have o3:((u2.tp T).alloc (.cells #[.slice Lw 0 0] 29)).heap[O]?=Lq (.cells #[.slice Lw 0 0] 29 (0,0)):=by rw[z];exact LS _ _
 have y3:=bk w (show(u2.tp T).heap[Y]?=_ from V);have Z:=bk w (show(u2.tp T).heap[X+1]?=_ from S);have b6:O≠X+1:=by
  have h1:=(Lz.1 (show(u2.tp T).heap[X+1]?=_ from S)).1;omega
 show EL _ _ _ _ _ _ _;generalize (u2.tp T).alloc (.cells #[.slice Lw 0 0] 29)=u3 at w r y3 Z o3 ⊢;have e6:=Lu z;clear w V S z;have d7:Out u3 O []:=⟨Lw,0,0,o3,ai.nil _ _ _⟩;have d5:jZ u3 O Y (X+1) j d h a n l k:=⟨⟨_,_,_,o3⟩,y3,Z,b6,A.knone r,yi.knone r,B.knone r,pi.knone r,by
  obtain⟨cs,e,g,h0,b9⟩:=h0;exact⟨cs,e,g,bk r h0,b9⟩⟩
 refine EL.seq D q p ?_;refine EL.region D q p ?_;simp only[Mt,LX,Mj,Ms,Mn,Mr,MY];refine EL.list D q p [0,1] [_,_] (rest:=[2]) rfl λT=>?_;have c1:(u3.tp T).cell? (X+1:Ly)=Lq (.slice n l.length k):=aa Z rfl;go_wp2;refine EL.tape (wq:=u3) ?_ T;refine EL.enter D q p (fk:=82) (args:=#[.slice n l.length k,.func (.func 83) #[] #[.pointer (Lq O),.pointer (Lq Y),.pointer (Lq (X+1:Ly))]]) rfl rfl (λT=>by rw[RZ (f:=82) rfl Tp.x82 (by kernel_rfl) rfl];walk_nrm) (bG 82 (by decide)) ?_;refine Lf D b0 b7 b8 c9 a7 I hS d5 d7 _ cs q p λv u hR=>?_;obtain⟨b,o,a8,rfl,c8,d6⟩:=hR;rw[Ow];walk_nrm;refine EL.region_end D q p ?_;refine EL.sp D q p λT=>?_;obtain⟨ob,on,oc,o4,i4⟩:=d6;have c1:(u.tp T).cell? O=Lq (.slice ob on oc):=aa o4 rfl;go_wp2;refine EL.tape (wq:=u) ?_ T;refine EL.retS D q p ?_;exact HR _ _ u ⟨o,_,rfl,⟨b,a8⟩,zp r c8 (by have h1:=G.size;have h2:(wq.tp u2.tape).heap.size=wq.heap.size:=rfl;have h3:=e6.out;rw[h3];exact h1),i4⟩
end
end
section
open Go.RowKit
def BY(pv:LA)(U:Lx Par)(b6:LJ)(w:Lt)(hP:aC 0 w.heap.size w pv U)(D:YOk U b6)(K7:∀x:Lx LJ,x.Nodup->(∀y∈x,0<=y/\y<U.length)->PIn U x)(K1:∀p∈U,p.tall<=b6)(hN:((cy (aJ U.length) 0).flatMap bV).length<=1000)(SL:Lx (Lx LJ))(M6:SL=dY U b6 (cy (aJ U.length) 0))(Z0:SL.length<=400)(V1:SL≠[])(S:Lx (Lx LJ))(M5:S.length=SL.length)(p8:∀(lo hi B o c:Ly) (W:Lt),kR lo hi B o W SL->hi<=W.heap.size->MH Ya 121 #[.slice (Lq ⟨B,o,Lw⟩) SL.length c,.func (.func 122) #[] #[]] W λe w'=>e=.returned (.tuple #[])/\W.gb w' (Lq B)/\kR lo hi B o w' S)(M3:∀s∈S,s≠[]/\∀x∈s,0<=x/\x<5)(f:Ly)(q9:f<=100)(R:Lx (Lx LJ))(hf:sx f S (aP (aJ U.length)) [([],0)]=Lq (Lq R)) :MH Ya 63 #[.agg #[pv,b6]] w λe w'=>∃v,e=.returned (.tuple #[v,.int .i64 0])/\w.gb w' Lw/\RowsIn 0 w'.heap.size w' v R:=by
 have⟨i0,M0,H9,H8,H7⟩:=Pd Tp.info133p;obtain⟨yb,yc,rfl,hyl,-⟩:=hP.cell;have⟨HP,t1,Q0,P3,HN,x7,HF,E6⟩:=GI hP D K7 K1 hN M6 hf M3;have⟨V9,W2⟩:=aS p8 M5;clear hP D K7 K1 hN M6 hf M3 p8 M5;go_enter Tp.x63,UA;go_wp2;refine SP ?_;go_upto_region 4 with(go_at_call 81;refine(fA 0 w.heap.size _ _ U b6 [] _ (HP.kept (Lr _ _ Lw)) (ai.nil _ _ _) (by simp) t1 (POk.nil U t1.l1)).mono ?_;rintro e F ⟨rfl,N7⟩;have T:=Lu ((Lr w (.cells #[.slice yb U.length yc,b6] 24) Lw).t N7);clear N7);obtain⟨Y,D5⟩:∃Y,Y=F.heap.size:=⟨_,rfl⟩;obtain⟨w3,v6⟩:∃w3,w3=F.alloc (.cells #[.slice yb U.length yc,b6] 91):=⟨_,rfl⟩;rw[<- D5,<- v6];have r7:w3.heap[Y]?=Lq (.cells #[.slice yb U.length yc,b6] 91 (0,0)):=by rw[v6,D5];exact LS _ _
 have x5:w.gb w3 Lw:=T.out.t (by rw[v6];exact Lr _ _ Lw);have⟨E5,u0⟩:=aS r7 x5;have q0:=aa r7 (o:=0) rfl;have q1:=aa r7 (o:=1) rfl;have Q3:=Lu ((HP.kept x5).mono (LC _) x5.size);clear D5 v6 r7 x5;go_wp2;go_loopw [29] (λiv wr=>∃k:Ly,iv=.int .i64 k/\k<=U.length/\w3.gb wr Lw) (λiv _=>(U.length - intOf iv).toNat)
 case atStart=>exact⟨0,rfl,by omega,Mf _ _⟩
 case round=>
  obtain⟨k,rfl,hk,hG⟩:=hrel;have HG:=Lu hG;have F2:=Q3.out.kept hG;have S8:=hG.cl q0;have S7:=hG.cl q1;have V0:Y<wr.heap.size:=by have:=aH E5;have:=hG.size;omega
  clear hG;by_cases x0:k<U.length
  ·obtain⟨b2,c2,he,-,hc⟩:=F2.cell;cases he;obtain⟨YB,yo,rfl,hY1,hY2,r7,k6⟩:=hc (by intro e;rw[e] at x0;simp at x0);have⟨p,hp,p0,p1,p2,p3⟩:=k6 k (by omega);have hpt:=P3.out p (Mh hp);have L6:(k:LJ)<(U.length:LJ):=by omega
   clear hc k6 hp F2;go_wp2;go_roundw
   case rel=>exact⟨k+1,by simp,by omega,HG.t (Lr _ _ _)⟩
   case measure=>simp[intOf];omega
  ·obtain rfl:k=U.length:=by omega
   clear F2;go_upto_region 11 with(fail);obtain⟨Sg,D7⟩:∃Sg,Sg=wr.heap.size:=⟨_,rfl⟩;obtain⟨w4,v2⟩:∃w4,w4=wr.alloc (.cells #[.slice Lw 0 0] 36):=⟨_,rfl⟩;rw[<- D7,<- v2];have P0:w4.heap[Sg]?=Lq (.cells #[.slice Lw 0 0] 36 (0,0)):=by rw[v2,D7];exact LS _ _
   have s3:w3.gb w4 Lw:=HG.out.t (by rw[v2];exact Lr _ _ Lw);have k6:=bk s3 E5;have hwB:w.heap.size<=Sg:=by have:=u0.out.size;have:=HG.out.size;omega
   have⟨F6,s5⟩:=aS P0 k6;have e6:=Lu (u0.t s3);have Q2:=Lu ((HP.kept (u0.t s3)).mono (LC _) (u0.t s3).size);have c0:=aa k6 (o:=0) rfl;have c1:=aa k6 (o:=1) rfl;clear D7 v2 P0 s3 k6 E5 q0 q1 S8 S7 V0;have hn:U.length<=1000:=by have:=t1.out.len;omega
   go_upto_region 12 with(first
    | (go_at_call 100;refine(ea yb U.length yc b6 w4 hn).mono ?_;rintro e w5 ⟨v5,rfl,N6,E2⟩;obtain⟨b5,k5,e5,-,-⟩:=E2.cell;rw[bw] at e5;subst e5;have L:=Lu N6;have Q9:=Lu E2;clear N6 E2)
    | (go_at_call 82;refine(Au (bk L s5) ((Q2.kept L).mono (LC _) L.size) (bk L F6) t1 Q0 HN (Q9.mono (Mw _) (LC _))).mono ?_;rintro e w6 ⟨rfl,G6,N8⟩;have e7:=Lu N8;clear N8))
   have⟨SB,sc,e4,M8,l8⟩:=e7.out.rows (by rw[<- x7];exact V1) (by rw[<- x7];omega);rw[<- x7] at e4 l8;have Q:w.gb w6 Lw:=⟨e7.os.trans (e6.t L).os,e7.tape.trans (e6.t L).tape,e7.output.trans (e6.t L).output,LN (e6.t L).size e7.size,λk hk _=>(e7.keep k (LY hk (e6.t L).size) (by omega)).t ((e6.t L).block k hk (by simp))⟩;have D6:w6.heap[Y]?=_:=(e7.keep Y (aH (bk L s5)) (λe=>by have h:=s5.out;rw[e,F6] at h;injection h with h;injection h with _ h _;exact absurd h (by decide))).t (bk L s5);have U3:=l8;obtain⟨csS,n7,-⟩:=U3;have M7:SB<w6.heap.size:=aH n7;have⟨R2,P2,P6,P8⟩:=dD Q D6 e4 l8;have T3:w.heap.size<=SB:=by have:=(e6.t L).size;omega
   have M4:SB≠Sg:=λe=>by rw[e,e4] at n7;injection n7 with h;injection h with _ h _;exact absurd h (by decide)
   have D8:SB≠Y:=λe=>by rw[e,D6] at n7;injection n7 with h;injection h with _ h _;exact absurd h (by decide)
   have Q7:=Lu (show w5.heap.size<=SB from M8);have c6:=aa e4 (o:=0) rfl;clear Q D6 e4 l8 M8 c0 c1 e7 n7;go_upto_region 13 with(go_at_call 121;refine(V9 _ _ SB 0 sc w6 P8 (LC _)).mono ?_;rintro e w7 ⟨rfl,N5,N1⟩;have c8:=Lu N5;have P7:=Lu N1;clear N5 N1);have x2:=blk c8 (by simpa using λe=>D8 e.symm) P2;have M9:=blk c8 (by simpa using λe=>M4 e.symm) P6;have⟨HY7,P5⟩:=aS x2 M9;have b7:w.gb w7 Lw:=jV R2 c8 T3;have R1:=Lu b7;have d0:=aa x2 (o:=0) rfl;have d1:=aa x2 (o:=1) rfl;clear x2 M9 c6 b7;have h5:∀x∈aJ U.length,0<=x/\x<5:=λx hx=>by have:=dM hx;have:=t1.out.len;omega
   have H5:=Lu h5;clear h5;go_upto_region 14 with(first
    | (go_at_call 100;refine(ea yb U.length yc b6 w7 hn).mono ?_;rintro e w9 ⟨v9,rfl,N4,E1⟩;obtain⟨b9,k9,e9,-,-⟩:=E1.cell;rw[bw] at e9;subst e9;have x9:=Lu N4;have Q8:=Lu E1;clear N4 E1)
    | (go_at_call 123;refine(nW _ _ _ _ w9 Q8 H5).mono ?_;rintro e w10 ⟨rfl,rfl⟩))
   have k7:S.length=SL.length:=W2.out;obtain⟨al,M2⟩:∃al,al=aP (aJ U.length):=⟨_,rfl⟩;rw[<- M2] at HF ⊢;have N0:RowsIn 0 w9.heap.size w9 (.slice (Lq SB) S.length sc) S:=by
    have h1:kR w5.heap.size w6.heap.size SB 0 w7 S:=P7.out;have h2:=h1.rows M7 Q7 (by omega) sc;exact(h2.kept x9).mono (Mw _) (LN c8.size x9.size)
   rw[<- k7] at P5;have M1:w.gb w9 Lw:=R1.out.t x9;have C6:=bk x9 P5;have c9:=aa C6 (o:=0) rfl;have Y9:=aH C6;have⟨W4,X0,W3⟩:=bL N0 M1 k7;have r8:S.length<=400:=by omega
   clear M2 N0 M1 C6 k7 x7 P3 HN Q0 HP Q3 Q2 F6 s5 P2 P6 P8 P7 Q9 Q8 T u0 e6 L R2 c8 R1 HG d0 d1 Q7 H5;go_upto_region 15 with(fail);have N9:zN S al R (.slice (Lq w9.heap.size) 1 1) (w9.alloc (.cells #[.slice Lw 0 0,.int .u8 0] 133)) f:=by
    refine⟨[([],0)],⟨_,1,rfl,λ_=>⟨w9.heap.size,0,_,_,rfl,by simp,LS _ _,λi hi=>?_⟩⟩,⟨by simp,λp hp=>?_⟩,λp hp=>?_,HF⟩
    ·obtain rfl:i=0:=by simp at hi;omega
     exact⟨([],0),_,_,rfl,rfl,rfl,⟨Lw,0,rfl,by simp,λh=>absurd rfl h⟩,rfl,λa n c e=>by cases e;omega⟩
    ·obtain rfl:p=([],0):=by simpa using hp
     simp
    ·obtain rfl:p=([],0):=by simpa using hp
     simpa using q9
   have X1:=Lu N9;clear N9;refine wp_label ?_;go_wp2;go_loopw [10] (λnv wr=>(∃m,m<=100/\zN S al R nv wr m)/\w9.gb wr Lw) (λnv wr=>zY S al R nv wr)
   case atStart=>exact⟨⟨f,q9,X1⟩,Lr _ _ Lw⟩
   case round=>
    obtain⟨wo,rfl⟩:∃x,x=wr:=⟨wr,rfl⟩;obtain⟨⟨m,hm,hP⟩,hg⟩:=hrel;have hQ:=yS hm hP;have U6:=wF hm hP;obtain⟨m0,D1⟩:∃m0,m0=zY S al R u10 wo:=⟨_,rfl⟩;rw[<- D1] at hQ U6;obtain⟨u,m9,q4,K3,l7⟩:=hQ;have K5:=m9;obtain⟨nb,nc,rfl,-⟩:=K5;cases m0 with
    | zero=>cases l7
    | succ n=>
     simp only[sx] at l7;have⟨W9,HG,W5,s6,E8,B3⟩:=sr D1 hg m9 q4 K3 l7;have U2:=q4.1;have U5:n<100:=by omega
     clear hm hP hg D1 m9 q4 K3 l7;go_wp2;go_loopw [11,53] (λnx iv wq=>∃k:Ly,iv=.int .i64 k/\k<=u.length/\(∀p∈u.take k,p.2≠al)/\wo.gb wq Lw/\dT wo.heap.size wq nx (cZ S (u.take k))) (λ_ iv _=>(u.length - intOf iv).toNat)
     case atStart=>exact⟨0,rfl,by omega,by simp,Mf _ _,dT.nil _ _⟩
     case round=>
      obtain⟨k,rfl,hk,L3,D4,g8⟩:=hrel;have t8:=Lu D4;have X:=D4;have⟨F4,x8⟩:=aS L3 g8;clear D4 L3 g8;by_cases x0:k<u.length
      ·obtain⟨RB,ro,p,pa,pn,pc,rfl,K9,K8,r1,r2,r3,r4⟩:=W5.out.at x0;have U9:=X.cl r1;have U8:=X.cl r2;have L6:(k:LJ)<(u.length:LJ):=by omega
       obtain⟨b,d⟩:=p;dsimp only at r1 r2 r3 r4 K8;subst K8;have P1:=(HG.t X).cl c9;have Y8:Sg<wr.heap.size:=by have:=(HG.t X).size;omega
       go_upto_region 19 with(fail);obtain⟨Z,x4⟩:∃Z,Z=wr.heap.size:=⟨_,rfl⟩;obtain⟨w1,v7⟩:∃w1,w1=wr.alloc (.cells #[.slice pa b.length pc,.int .u8 (d:Ly)] 133):=⟨_,rfl⟩;rw[<- x4,<- v7];have d8:wr.gb w1 Lw:=by rw[v7];exact Lr _ _ Lw
       have l5:w1.heap[Z]?=Lq (.cells #[.slice pa b.length pc,.int .u8 (d:Ly)] 133 (0,0)):=by rw[v7,x4];exact LS _ _
       have b0:=aa l5 (o:=0) rfl;have b1:=aa l5 (o:=1) rfl;have V8:=d8.cl P1;have P9:=Lu r3;have W6:=Lu ((r3.kept (X.t d8)).mono (LC _) (X.t d8).size);have⟨Q1,m3,s9,n8⟩:=dD l5 d8 x4 K9;clear l5 v7 d8 x4 r1 r2 r3 U9 U8 K9 P1 X;by_cases C8:d=al
       ·subst C8;go_wp2;rw[Exit.noGoto_ret];go_ret2;have N:=B3.out;rw[uP (λp:Rec=>p.2 == d) u k _ n8 (by simp) (λi y hi hy=>by
         have:=F4.out y (Mh (by rw[Oi hi];exact hy));simpa using this)] at N
        simp only[MM] at N;exact⟨_,rfl,X0.t (HG.t (t8.t m3)),by rw[<- N];exact W6⟩
       ·have X9:((d:LJ) == (al:LJ))=LH:=by rw[beq_eq_false_iff_ne];omega
        have W7:=Lu C8;clear C8;obtain⟨wp,T2⟩:∃x,x=wr:=⟨wr,rfl⟩;have A6:wo.gb w1 Lw:=t8.out.t m3;have X7:wo.heap.size<=Z:=by have:=t8.out.size;have:=s9.out;omega
        have L5:∀g,u11.ownBlock=Lq g->g≠Z:=λg e=>by
         obtain⟨C,h1,-,-⟩:=x8.out;have:=(h1.lt g e).2;have:=s9.out;omega
        have Q6:=Lu (x8.kept m3);have⟨R0,W8⟩:=aS A6 L5;clear T2 A6 L5 x8 m3 t8 s9;go_wp2;clear b0 b1 V8;go_loopw [11,65] (λnx iv wq=>∃j:Ly,iv=.int .i64 j/\j<=S.length/\wo.gb wq Lw/\wq.heap[Z]?=Lq (.cells #[.slice pa b.length pc,.int .u8 (d:Ly)] 133 (0,0))/\(∀g,nx.ownBlock=Lq g->g≠Z)/\dT wo.heap.size wq nx (cZ S (u.take k)++((S.take j).filter (okF (b,d))).map (jJ (b,d)))) (λ_ iv _=>(S.length - intOf iv).toNat)
        case atStart=>exact⟨0,rfl,by omega,R0,Q1,W8,by simpa using Q6.out⟩
        case round=>
         obtain⟨j,rfl,hj,g9,d6,A4,A3⟩:=hrel;have hc9:=aa (o:=0) d6 rfl;have Y6:=aa (o:=1) d6 rfl;have⟨c3,a7,a8,l9⟩:=dD g9 d6 A4 A3;have X6:=g9.size;have Z2:=aH d6;clear d6 A4 A3;by_cases D2:j<S.length
         ·obtain⟨sb',sc',eS,-,x3⟩:=(W4.kept (HG.t g9)).cell;cases eS;obtain⟨SB',so,eS,-,-,-,x3⟩:=x3 (by intro e;rw[e] at D2;simp at D2);cases eS;have⟨s,x,C5,U0,v8⟩:=x3 j D2;rw[Mn] at U0;obtain⟨xb,xc,rfl,-,z7⟩:=v8.cell;have⟨z6,K2⟩:=E6.out s (Mh C5);obtain⟨XB,xo,rfl,-,-,-,g5⟩:=z7 z6;have C4:0<s.length:=Pr.2 z6;have g5:=g5 0 C4;have Y3:(j:LJ)<(S.length:LJ):=by omega
          have R7:(0:LJ)<(s.length:LJ):=by omega
          have p9:=λC (h:World.gb _ C Lw)=>nW _ _ _ s C (v8.kept h) K2;have D0:=ir s 5 λy hy=>by have:=K2 y hy;omega
          have l6:okF (b,d) s=(!(decide (0<b.length) && decide (cf s<=cf (qX b))) && decide (d &&& aP s=0)):=rfl;have q6:=(s6.2 _ (Mh n8)).2.1;have P:=Ct ⟨d,q6⟩ ⟨aP s,D0⟩;have n6:=Fg ⟨d,q6⟩ ⟨aP s,D0⟩;have r5:jJ (b,d) s=(b++[s],d ||| aP s):=rfl;simp only at P n6 q6;rw[show s[0]?.getD 0=cf s from rfl] at g5;generalize aP s=ms at p9 D0 l6 P n6 r5;generalize cf s=hs at g5 l6;have A7:(S.take (j+1)).filter (okF (b,d))=(S.take j).filter (okF (b,d))++(if okF (b,d) s=LG then[s] else[]):=by
           rw[Np,C5,So];simp[Uh]
          have⟨u6,a6,A,m4,Q5,B4,P4⟩:=BP A7 p9 l6 P n6 r5 v8;have s8:=Lu ((P9.kept g9).mono (LC _) g9.size);clear A7 p9 l6 P n6 r5 v8 x3 C5 g9 z7;have r6:okF (b,d) s=LH->∀C,wr.gb C Lw->dT wo.heap.size C u11 (cZ S (u.take k)++((S.take (j+1)).filter (okF (b,d))).map (jJ (b,d))):=λe C h=>by
           rw[u6,e];simpa using l9.out.kept h
          have l4:=Lu r6;clear r6;have z2:w9.heap.size<=wr.heap.size:=(HG.t c3).size;have A0:=E8.out _ (Mh n8);dsimp only at A0;have X8:b.length<=100:=by omega
          clear A0;by_cases w8:0<b.length
          ·have U4:(0:LJ)<(b.length:LJ):=by omega
           rw[show decide (0<b.length)=LG by simpa using w8] at A;simp only[Tl] at A;obtain⟨lb,lc,el,-,x1⟩:=s8.out.cell;cases el;obtain⟨LB,lo,rfl,-,-,-,x1⟩:=x1 (by intro e;rw[e] at w8;simp at w8);have⟨r,x,m9,hrc,K4⟩:=x1 (b.length - 1) (by omega);have q7:qX b=r:=by unfold qX;rw[m9];rfl
           have K6:=(s6.2 _ (Mh n8)).1 r (Mh m9);obtain⟨z8,-⟩:=E6.out r K6;obtain⟨rb,rc,rfl,-,g6⟩:=K4.cell;obtain⟨QB,qo,rfl,-,-,-,g6⟩:=g6 z8;have C7:0<r.length:=Pr.2 z8;have g6:=g6 0 C7;rw[Nat.add_zero] at g6;have g5:=g5;rw[Nat.add_zero] at g5;rw[q7] at A;rw[show r[0]?.getD 0=cf r from rfl] at g6;have R8:(0:LJ)<(r.length:LJ):=by omega
           have hwn:IntKind.i64.wrap ((b.length:LJ) - 1)=(b.length:LJ) - 1:=MI _ (by omega);have L2:((b.length:LJ) - 1).toNat=b.length - 1:=by omega
           have Y1:(0:LJ)<=(b.length:LJ) - 1:=by omega
           have Y0:(b.length:LJ) - 1<(b.length:LJ):=by omega
           generalize cf r=hr at g6 A;clear x1 q7 K6 K4;by_cases L8:hs<=hr
           ·have D:okF (b,d) s=LH:=by rw[A];simp[L8]
            have I:=Lu D;clear D;go_upto_region 25 with(fail);go_quiet (first | (go_at_call 123;refine Ov ((a6 _ (ay _ _ Lw)).mono (λe w5 h=>⟨h.1,h.2.symm⟩))));go_wp2;exact⟨⟨j+1,by simp,by omega,c3.t (ay _ _ Lw),a7,a8,l4 I _ (ay _ _ Lw)⟩,by simp[intOf];omega⟩
           ·rw[show decide (hs<=hr)=LH by simpa using L8] at A;simp only[Ry,Tl] at A;by_cases hz:d &&& ms=0
            ·have C2:(((d &&& ms:Ly):LJ) != 0)=LH:=by rw[hz];rfl
             have D:okF (b,d) s=LG:=by rw[A];simpa using hz
             have I:=Lu D;have P:=m4.out;clear hz D;go_upto_region 25 with(fail);go_quiet (first | (go_at_call 123;refine Ov ((a6 _ (ay _ _ Lw)).mono (λe w5 h=>⟨h.1,h.2.symm⟩))));go_upto_region 26 with(fail);have h9:=ay wr nq Lw;have C3:wr.heap.size=(wr.drewN nq).heap.size:=rfl;generalize wr.drewN nq=wa at h9 C3 ⊢;have h8:wr.gb wa.drew Lw:=h9.t (ak wa Lw);have g7:=bk h8 a7;have s0:wa.drew.cell? Z=Lq (.slice (Lq ⟨LB,lo,Lw⟩) b.length pc)/\wa.drew.cell? ⟨Z,1,Lw⟩=Lq (.int .u8 (d:Ly)):=⟨aa g7 rfl,aa g7 rfl⟩;have p6:=s0.1;have p5:=s0.2;have⟨C,n1,n2,n3⟩:=l9.out;have⟨oa,om,oc,eo⟩:=cF n1;subst eo;have⟨F5,O,t7,t6⟩:=dD h8 n1 n2 n3;have n6:=Q5.out;have L0:(b.length:LJ)<=(pc:LJ):=by omega
             have L4:(0:LJ)<=(b.length:LJ):=by omega
             have D9:(cZ S (u.take k)++((S.take j).filter (okF (b,d))).map (jJ (b,d))).length<=600000000:=by
              have h1:=tx S (u.take k);have h2:=Oq (okF (b,d)) (S.take j);have h3:(u.take k).length*S.length<=1300000*400:=Nat.mul_le_mul (by rw[OX];omega) r8;rw[Na,On];rw[OX] at h2;omega
             generalize r9:(cZ S (u.take k)++((S.take j).filter (okF (b,d))).map (jJ (b,d)))=RR at O t7 t6 D9;have E7:=Lu r9;have U7:wo.heap.size<=wa.heap.size:=by have:=c3.out.size;omega
             clear h9 h8 g7 n1 n2 n3 r9;refine bn 21 (λw'=>w'.cell? Z=Lq (.slice (Lq ⟨LB,lo,Lw⟩) b.length pc)/\w'.cell? ⟨Z,1,Lw⟩=Lq (.int .u8 (d:Ly))) (by kernel_rfl) (by kernel_rfl) s0 (λhHeld=>?_);simp only[LX,Mj,Ms,NA,Mn,MF,MG,MZ,Mu,Mk];refine tk 0 (h:=tk 1 (h:=tk 2 (h:=tk 3 (h:=tk 4 (h:=tk 5 (h:=tk 6 (h:=tk 7 (h:=tk 8 (h:=tk 9 (h:=tk 10 (h:=tk 13 (h:=tk 14 (h:=tk 15 (h:=?_))))))))))))));try go_frame
             refine rdc 11 λK hK=>?_;go_simp;refine hK.out _ _ (by first | exact hHeld | exact s7 | exact s2 | exact⟨(Lr _ _ Lw).cl hHeld.1,(Lr _ _ Lw).cl hHeld.2⟩) (λhHeld=>?_);refine rdc 12 λK hK=>?_;have M:wr.gb (wa.drew.alloc (.cells #[.slice (Lq ⟨XB,xo,Lw⟩) s.length xc] 29)) Lw:=F5.out.t (Lr _ _ Lw);refine ql rfl (.tmp 105) (.tmp 107) rfl (nc:=pc) (B:=wa.heap.size) (y:=.slice (Lq ⟨XB,xo,Lw⟩) s.length xc) (l:=s) (by rfl) (by rfl) ((s8.kept M).mono (LC _) M.size) (gS wa.drew _ _ _) ((P4.kept M).mono (Mw _) (LN z2 M.size)) (by omega) (λg G F q2 q3 q5=>?_);have k0:=M.t q2;have s2:F.cell? Z=Lq (.slice (Lq ⟨LB,lo,Lw⟩) b.length pc)/\F.cell? ⟨Z,1,Lw⟩=Lq (.int .u8 (d:Ly)):=⟨q2.cl ((Lr wa.drew _ Lw).cell p6 (by simp)),q2.cl ((Lr wa.drew _ Lw).cell p5 (by simp))⟩;have⟨T,F1,E9⟩:=bL k0 q3 q5;have U1:wa.heap.size<=F.heap.size:=by have:=k0.size;omega
             clear M q2 q3 q5 k0;refine hK.out _ _ (by first | exact hHeld | exact s7 | exact s2 | exact⟨(Lr _ _ Lw).cl hHeld.1,(Lr _ _ Lw).cl hHeld.2⟩) (λhHeld=>?_);refine rdc 16 λK hK=>?_;go_simp;go_at_call 123;refine(a6 F T).mono ?_;rintro e w3 ⟨rfl,rfl⟩;refine hK.out _ _ (by first | exact hHeld | exact s7 | exact s2 | exact⟨(Lr _ _ Lw).cl hHeld.1,(Lr _ _ Lw).cl hHeld.2⟩) (λhHeld=>?_);refine tk 17 (h:=tk 18 (h:=?_));try go_frame
             refine rdc 19 λK hK=>?_;go_simp;refine hK.out _ _ (by first | exact hHeld | exact s7 | exact s2 | exact⟨(Lr _ _ Lw).cl hHeld.1,(Lr _ _ Lw).cl hHeld.2⟩) (λhHeld=>?_);refine rdc 20 λK hK=>?_;have s1:=dZ (C:=F) O (λg e=>T.block g (O.lt g e).2 (by simp));refine step_append_lies _ (by rfl) _ _ _ (by rfl) wo.heap.size 133 i0 _ 2 32 Tp.und134 M0 H9 H8 H7 rfl (by omega) (.slice oa om oc) RR.length (nX C) (by rfl) (by exact s1.alloc _) ⟨F.heap.size,0,Lw⟩ 1 1 [.slice (Lq ⟨g,0,Lw⟩) (b.length+1) G,.int .u8 ((d ||| ms:Ly):LJ)] (by rfl) (by rfl) (Of (cs:=#[.slice (Lq ⟨g,0,Lw⟩) (b.length+1) G,.int .u8 ((d ||| ms:Ly):LJ)]) (t:=133) (fr:=(0,0)) (LS F _)) (by simp[OV]) (by omega) (by unfold Qe;omega) (by omega) (by simp;omega) (F.heap.size+1) (by simp) ?_;intro g' cp w7 V z d9 q8;have h6:(F.alloc (.cells #[.slice (Lq ⟨g,0,Lw⟩) (b.length+1) G,.int .u8 ((d ||| ms:Ly):LJ)] 133)).gb w7 (MU oa om oc).ownBlock:=⟨z.os,z.tape,z.output,z.size,z.block⟩;have Q:=T.out.t (Lr F (.cells #[.slice (Lq ⟨g,0,Lw⟩) (b.length+1) G,.int .u8 ((d ||| ms:Ly):LJ)] 133) Lw);have b7:wr.gb w7 (MU oa om oc).ownBlock:=(Q.but _).t h6;have H:=blk b7 (λe=>a8 _ e.symm rfl) a7;have s7:w7.cell? Z=Lq (.slice (Lq ⟨LB,lo,Lw⟩) b.length pc)/\w7.cell? ⟨Z,1,Lw⟩=Lq (.int .u8 (d:Ly)):=⟨aa H rfl,aa H rfl⟩;have k8:=dZ (C:=F.alloc (.cells #[.slice (Lq ⟨g,0,Lw⟩) (b.length+1) G,.int .u8 ((d ||| ms:Ly):LJ)] 133)) O (λg e=>Q.block g (O.lt g e).2 (by simp));have d5:jg (F.alloc (.cells #[.slice (Lq ⟨g,0,Lw⟩) (b.length+1) G,.int .u8 ((d ||| ms:Ly):LJ)] 133)) (.slice (Lq ⟨g,0,Lw⟩) (b.length+1) G) (.int .u8 ((d ||| ms:Ly):LJ)) (b++[s],d ||| ms):=⟨(F1.kept (Lr F _ Lw)).mono (LC _) (Lr F _ Lw).size,rfl,λa n c e=>by cases e;exact E9⟩;have d7:=dT.push k8 t7 (λi p x e1 e2=>(t6 i p x e1 e2).kept Q) h6 V (d5.app k8 h6);have⟨t2,c8,F3,F7⟩:=dD d7 b7 H d9;clear V z d9 q8 h6 Q b7 H s1 k8 d5 d7;refine hK.out _ _ (by first | exact hHeld | exact s7 | exact s2 | exact⟨(Lr _ _ Lw).cl hHeld.1,(Lr _ _ Lw).cl hHeld.2⟩) (λhHeld=>?_);try go_frame
             refine⟨by kernel_rfl,?_⟩;simp only[MQ,Nu];clear s0 p6 p5 s2 s7 hHeld;go_wp2;refine⟨⟨j+1,by simp,by omega,c3.andThen c8 (λi e=>.inl (O.lt i e).1),F3,λi e=>?_,?_⟩,by simp[intOf];omega⟩
             ·obtain rfl:g'=i:=by simpa[MP] using e
              rcases F7 with h | h
              ·exact a8 _ h
              ·have:=T.out.size;omega
             ·rw[u6,if_pos I.out,NJ,<- OE,E7,show List.map (jJ (b,d)) [s]=[jJ (b,d) s] from rfl,B4];exact t2
            ·have C2:(((d &&& ms:Ly):LJ) != 0)=LG:=by simpa using hz
             have D:okF (b,d) s=LH:=by rw[A];simpa using hz
             have I:=Lu D;have P:=m4.out;clear hz D;go_upto_region 25 with(fail);go_quiet (first | (go_at_call 123;refine Ov ((a6 _ (ay _ _ Lw)).mono (λe w5 h=>⟨h.1,h.2.symm⟩))));go_wp2;exact⟨⟨j+1,by simp,by omega,c3.t (ay _ _ Lw),a7,a8,l4 I _ (ay _ _ Lw)⟩,by simp[intOf];omega⟩
          ·have U4:¬ (0:LJ)<(b.length:LJ):=by omega
           rw[show decide (0<b.length)=LH by simpa using w8] at A;simp only[Bool.false_and,Ry,Tl] at A;by_cases hz:d &&& ms=0
           ·have C2:(((d &&& ms:Ly):LJ) != 0)=LH:=by rw[hz];rfl
            have D:okF (b,d) s=LG:=by rw[A];simpa using hz
            have I:=Lu D;have P:=m4.out;clear hz D;go_upto_region 25 with(fail);go_quiet (first | (go_at_call 123;refine Ov ((a6 _ (ay _ _ Lw)).mono (λe w5 h=>⟨h.1,h.2.symm⟩))));go_upto_region 26 with(fail);have h9:=ay wr nq Lw;have C3:wr.heap.size=(wr.drewN nq).heap.size:=rfl;generalize wr.drewN nq=wa at h9 C3 ⊢;have h8:wr.gb wa.drew Lw:=h9.t (ak wa Lw);have g7:=bk h8 a7;have s0:wa.drew.cell? Z=Lq (.slice pa b.length pc)/\wa.drew.cell? ⟨Z,1,Lw⟩=Lq (.int .u8 (d:Ly)):=⟨aa g7 rfl,aa g7 rfl⟩;have p6:=s0.1;have p5:=s0.2;have⟨C,n1,n2,n3⟩:=l9.out;have⟨oa,om,oc,eo⟩:=cF n1;subst eo;have⟨F5,O,t7,t6⟩:=dD h8 n1 n2 n3;have n6:=Q5.out;have L0:(b.length:LJ)<=(pc:LJ):=by omega
            have L4:(0:LJ)<=(b.length:LJ):=by omega
            have D9:(cZ S (u.take k)++((S.take j).filter (okF (b,d))).map (jJ (b,d))).length<=600000000:=by
             have h1:=tx S (u.take k);have h2:=Oq (okF (b,d)) (S.take j);have h3:(u.take k).length*S.length<=1300000*400:=Nat.mul_le_mul (by rw[OX];omega) r8;rw[Na,On];rw[OX] at h2;omega
            generalize r9:(cZ S (u.take k)++((S.take j).filter (okF (b,d))).map (jJ (b,d)))=RR at O t7 t6 D9;have E7:=Lu r9;have U7:wo.heap.size<=wa.heap.size:=by have:=c3.out.size;omega
            clear h9 h8 g7 n1 n2 n3 r9;refine bn 21 (λw'=>w'.cell? Z=Lq (.slice pa b.length pc)/\w'.cell? ⟨Z,1,Lw⟩=Lq (.int .u8 (d:Ly))) (by kernel_rfl) (by kernel_rfl) s0 (λhHeld=>?_);simp only[LX,Mj,Ms,NA,Mn,MF,MG,MZ,Mu,Mk];refine tk 0 (h:=tk 1 (h:=tk 2 (h:=tk 3 (h:=tk 4 (h:=tk 5 (h:=tk 6 (h:=tk 7 (h:=tk 8 (h:=tk 9 (h:=tk 10 (h:=tk 13 (h:=tk 14 (h:=tk 15 (h:=?_))))))))))))));try go_frame
            refine rdc 11 λK hK=>?_;go_simp;refine hK.out _ _ (by first | exact hHeld | exact s7 | exact s2 | exact⟨(Lr _ _ Lw).cl hHeld.1,(Lr _ _ Lw).cl hHeld.2⟩) (λhHeld=>?_);refine rdc 12 λK hK=>?_;have M:wr.gb (wa.drew.alloc (.cells #[.slice (Lq ⟨XB,xo,Lw⟩) s.length xc] 29)) Lw:=F5.out.t (Lr _ _ Lw);refine ql rfl (.tmp 105) (.tmp 107) rfl (nc:=pc) (B:=wa.heap.size) (y:=.slice (Lq ⟨XB,xo,Lw⟩) s.length xc) (l:=s) (by rfl) (by rfl) ((s8.kept M).mono (LC _) M.size) (gS wa.drew _ _ _) ((P4.kept M).mono (Mw _) (LN z2 M.size)) (by omega) (λg G F q2 q3 q5=>?_);have k0:=M.t q2;have s2:F.cell? Z=Lq (.slice pa b.length pc)/\F.cell? ⟨Z,1,Lw⟩=Lq (.int .u8 (d:Ly)):=⟨q2.cl ((Lr wa.drew _ Lw).cell p6 (by simp)),q2.cl ((Lr wa.drew _ Lw).cell p5 (by simp))⟩;have⟨T,F1,E9⟩:=bL k0 q3 q5;have U1:wa.heap.size<=F.heap.size:=by have:=k0.size;omega
            clear M q2 q3 q5 k0;refine hK.out _ _ (by first | exact hHeld | exact s7 | exact s2 | exact⟨(Lr _ _ Lw).cl hHeld.1,(Lr _ _ Lw).cl hHeld.2⟩) (λhHeld=>?_);refine rdc 16 λK hK=>?_;go_simp;go_at_call 123;refine(a6 F T).mono ?_;rintro e w3 ⟨rfl,rfl⟩;refine hK.out _ _ (by first | exact hHeld | exact s7 | exact s2 | exact⟨(Lr _ _ Lw).cl hHeld.1,(Lr _ _ Lw).cl hHeld.2⟩) (λhHeld=>?_);refine tk 17 (h:=tk 18 (h:=?_));try go_frame
            refine rdc 19 λK hK=>?_;go_simp;refine hK.out _ _ (by first | exact hHeld | exact s7 | exact s2 | exact⟨(Lr _ _ Lw).cl hHeld.1,(Lr _ _ Lw).cl hHeld.2⟩) (λhHeld=>?_);refine rdc 20 λK hK=>?_;have s1:=dZ (C:=F) O (λg e=>T.block g (O.lt g e).2 (by simp));refine step_append_lies _ (by rfl) _ _ _ (by rfl) wo.heap.size 133 i0 _ 2 32 Tp.und134 M0 H9 H8 H7 rfl (by omega) (.slice oa om oc) RR.length (nX C) (by rfl) (by exact s1.alloc _) ⟨F.heap.size,0,Lw⟩ 1 1 [.slice (Lq ⟨g,0,Lw⟩) (b.length+1) G,.int .u8 ((d ||| ms:Ly):LJ)] (by rfl) (by rfl) (Of (cs:=#[.slice (Lq ⟨g,0,Lw⟩) (b.length+1) G,.int .u8 ((d ||| ms:Ly):LJ)]) (t:=133) (fr:=(0,0)) (LS F _)) (by simp[OV]) (by omega) (by unfold Qe;omega) (by omega) (by simp;omega) (F.heap.size+1) (by simp) ?_;intro g' cp w7 V z d9 q8;have h6:(F.alloc (.cells #[.slice (Lq ⟨g,0,Lw⟩) (b.length+1) G,.int .u8 ((d ||| ms:Ly):LJ)] 133)).gb w7 (MU oa om oc).ownBlock:=⟨z.os,z.tape,z.output,z.size,z.block⟩;have Q:=T.out.t (Lr F (.cells #[.slice (Lq ⟨g,0,Lw⟩) (b.length+1) G,.int .u8 ((d ||| ms:Ly):LJ)] 133) Lw);have b7:wr.gb w7 (MU oa om oc).ownBlock:=(Q.but _).t h6;have H:=blk b7 (λe=>a8 _ e.symm rfl) a7;have s7:w7.cell? Z=Lq (.slice pa b.length pc)/\w7.cell? ⟨Z,1,Lw⟩=Lq (.int .u8 (d:Ly)):=⟨aa H rfl,aa H rfl⟩;have k8:=dZ (C:=F.alloc (.cells #[.slice (Lq ⟨g,0,Lw⟩) (b.length+1) G,.int .u8 ((d ||| ms:Ly):LJ)] 133)) O (λg e=>Q.block g (O.lt g e).2 (by simp));have d5:jg (F.alloc (.cells #[.slice (Lq ⟨g,0,Lw⟩) (b.length+1) G,.int .u8 ((d ||| ms:Ly):LJ)] 133)) (.slice (Lq ⟨g,0,Lw⟩) (b.length+1) G) (.int .u8 ((d ||| ms:Ly):LJ)) (b++[s],d ||| ms):=⟨(F1.kept (Lr F _ Lw)).mono (LC _) (Lr F _ Lw).size,rfl,λa n c e=>by cases e;exact E9⟩;have d7:=dT.push k8 t7 (λi p x e1 e2=>(t6 i p x e1 e2).kept Q) h6 V (d5.app k8 h6);have⟨t2,c8,F3,F7⟩:=dD d7 b7 H d9;clear V z d9 q8 h6 Q b7 H s1 k8 d5 d7;refine hK.out _ _ (by first | exact hHeld | exact s7 | exact s2 | exact⟨(Lr _ _ Lw).cl hHeld.1,(Lr _ _ Lw).cl hHeld.2⟩) (λhHeld=>?_);try go_frame
            refine⟨by kernel_rfl,?_⟩;simp only[MQ,Nu];clear s0 p6 p5 s2 s7 hHeld;go_wp2;refine⟨⟨j+1,by simp,by omega,c3.andThen c8 (λi e=>.inl (O.lt i e).1),F3,λi e=>?_,?_⟩,by simp[intOf];omega⟩
            ·obtain rfl:g'=i:=by simpa[MP] using e
             rcases F7 with h | h
             ·exact a8 _ h
             ·have:=T.out.size;omega
            ·rw[u6,if_pos I.out,NJ,<- OE,E7,show List.map (jJ (b,d)) [s]=[jJ (b,d) s] from rfl,B4];exact t2
           ·have C2:(((d &&& ms:Ly):LJ) != 0)=LG:=by simpa using hz
            have D:okF (b,d) s=LH:=by rw[A];simpa using hz
            have I:=Lu D;have P:=m4.out;clear hz D;go_upto_region 25 with(fail);go_quiet (first | (go_at_call 123;refine Ov ((a6 _ (ay _ _ Lw)).mono (λe w5 h=>⟨h.1,h.2.symm⟩))));go_wp2;exact⟨⟨j+1,by simp,by omega,c3.t (ay _ _ Lw),a7,a8,l4 I _ (ay _ _ Lw)⟩,by simp[intOf];omega⟩
         ·obtain rfl:j=S.length:=by omega
          have hjn:¬ (S.length:LJ)<(S.length:LJ):=by omega
          clear g9;go_wp2;refine⟨⟨k+1,by simp,by omega,λq hq=>?_,c3,?_⟩,by simp[intOf];omega⟩
          ·rw[Np,n8] at hq;rcases Ob.1 hq with h | h
           ·exact F4 q h
           ·simp at h;subst h;exact W7
          ·rw[yY n8];have:=l9.out;rw[NH] at this;exact this
      ·obtain rfl:k=u.length:=by omega
       have L2:(u.find? λp=>p.2 == al)=Lw:=Qt.2 λp hp=>by have:=F4.out p (by rw[NH];exact hp);simpa using this
       have N:=B3.out;rw[L2] at N;have L9:(cZ S u).length<=1300000:=by
        refine MX λh=>?_;simp only[if_neg h] at N;cases N
       simp only[if_pos L9] at N;have C9:cZ S u≠[]:=λh=>by
        rw[if_pos h] at N;cases N
       rw[if_neg C9] at N;have g8:=x8.out;rw[NH] at g8;have N3:∀W v,kS W v (cZ S u)->zN S al R v W n:=λW v hr=>by
        refine⟨_,hr,⟨L9,λq hq=>?_⟩,λq hq=>?_,N⟩
        ·obtain⟨p,hp,s,hs,rfl⟩:=tD hq;have h1:=(s6.2 p hp);have h2:=E8.out p hp;have h3:=ir s 5 λy hy=>by have:=(E6 s hs).2 y hy;omega
         refine⟨λr hr=>?_,Nat.or_lt_two_pow (n:=5) h1.2.1 h3,by simp[jJ];omega⟩;rcases Ob.1 hr with h | h
         ·exact h1.1 r h
         ·rw[Nl.1 h];exact hs
        ·obtain⟨p,hp,s,hs,rfl⟩:=tD hq;have h2:=E8.out p hp;simp[jJ];omega
       have L1:=N3 wr u11 g8.recs;obtain⟨xb,xc,hx,-⟩:=g8.recs;have T1:(cZ S u).length≠0:=λh=>C9 (MT h);generalize (cZ S u).length=xl at hx T1;subst hx;have Q4:=Lu L1;have hxz:((xl:LJ) == 0)=LH:=by rw[beq_eq_false_iff_ne];omega
       clear L1 N3 N g8 C9;go_wp2;exact⟨⟨⟨n,by omega,Q4⟩,HG.t t8⟩,Nat.lt_of_le_of_lt (wF (by omega) Q4) (by rw[<- W9];omega)⟩
end
section
open Go Go.RowKit Go.Co
def gq{n:LJ}(h:0<=n/\n<=30):YOk (bD n) 6:=⟨by simp[bD],λp a=>by
 simp only[bD,MK,NQ,or_false] at a;rcases a with rfl | rfl | rfl | rfl<;>(dsimp only;omega),by omega,by omega⟩
def iH(n:LJ):(bD n).length=4:=rfl
def vN(n:LJ):∀(x:Lx LJ),(∀y∈x,0<=y/\y<4)->∀a:LJ,(x.map (dQ (bD n))).foldl (·+·) a=a+(2*(x.count 0:LJ)+2*(x.count 1:LJ)+(x.count 2:LJ)+(x.count 3:LJ))
 | [],_,a=>by simp
 | y::t,h,a=>by
  have b:=vN n t (λz c=>h z (by simp[c]));have d:=h y (by simp);simp only[PS,OI];rw[b];obtain rfl | rfl | rfl | rfl:y=0\/y=1\/y=2\/y=3:=by omega
  all_goals simp[UF,dQ,bD];try omega
def nE{x:Lx LJ}(h:x.Nodup)(a:LJ):x.count a<=1:=by
 induction x with
 | nil=>simp
 | cons y t b=>
  rw[List.nodup_cons] at h;rw[UF];by_cases e:y=a
  ·subst e;have:=List.count_eq_zero.2 h.1;simp[this]
  ·simp[e];exact b h.2
def vA{n:LJ}(x:Lx LJ)(a:x.Nodup)(d:∀y∈x,0<=y/\y<(bD n).length):POk (bD n) 6 x:=by
 have e:∀y∈x,0<=y/\y<4:=λy c=>by have:=d y c;rw[iH] at this;omega
 have i:=vN n x e 0;have o:=nE a 0;have l:=nE a 1;have k:=nE a 2;have j:=nE a 3;refine⟨d,a,?_,?_⟩
 ·unfold aV;rw[i];omega
 ·have b:∀(x:Lx LJ),(∀y∈x,0<=y/\y<4)->x.length=x.count 0+x.count 1+x.count 2+x.count 3:=by
   intro x;induction x with
   | nil=>simp
   | cons y t f=>
    intro h;have:=f (λz g=>h z (by simp[g]));have c:=h y (by simp);obtain rfl | rfl | rfl | rfl:y=0\/y=1\/y=2\/y=3:=by omega
    all_goals simp[UF];omega
  have:=b x e;omega
def pT(n:LJ):POk (bD n) 6 [0,1,2]:=vA _ (by decide) (by simp[iH])
def Gq(n:LJ):POk (bD n) 6 [2,1,0]:=vA _ (by decide) (by simp[iH])
def EM:fj (bD 12) [0,1,2]=[(6,9),(2,3),(0,0)]:=by kernel_rfl
def Ce:standsV (bD 8) [0,1,2]=3:=by kernel_rfl
def EK:lZ (bD 8) [0,1,2]=.tuple #[.agg #[.int .i64 (-1),.int .i64 2],.int .i64 0]:=by kernel_rfl
def Ha:qP (bD 12) 6 3 10 [cm [2,1,0]] [cm [2,1,0]] 0=Lq (Lq (3,[0,1,2])):=by kernel_rfl
def GZ:(dN (bD 12) 6 (cy (aJ (bD 12).length) 0)).2=[0,1,2]:=by kernel_rfl
def rD(a:Lx Par)(l b:Lx LJ):MC:=(Mr (zG a b)).any λi=>aL a (ovr (sF a b i) (pre Par.mn a a.length) b b.length) l && !aL a (ovr (sF a b i) (pre Par.mx a a.length) b b.length) l
def xK(d:Lx Par)(l c:Lx LJ):rD d l c=LG↔oG d l c:=by
 unfold rD oG;rw[List.any_eq_true];constructor
 ·rintro⟨i,b,a⟩;exact⟨i,Nj.1 b,a⟩
 ·rintro⟨i,b,a⟩;exact⟨i,Nj.2 b,a⟩
def Dd(a:Lx Par)(l c:Lx LJ):fS a l c=!rD a l c:=vR (xK a l c)
def EJ:dp (fS (bD 8) [0,1,2]) (cy [0,1,2] 0) []=(LG,[1,2]):=by
 have e:fS (bD 8) [0,1,2]=λc=>!rD (bD 8) [0,1,2] c:=funext λc=>Dd _ _ _;have h:dp (λc=>!rD (bD 8) [0,1,2] c) (cy [0,1,2] 0) []=(LG,[1,2]):=by kernel_rfl
 exact(congrArg (λp=>dp p (cy [0,1,2] 0) []) e).t h
end
section
open Go.RowKit
def eT(n:LJ)(w:Lt):MH Ya 80 #[.int .i64 n] w λe x=>∃v,e=.returned (.agg #[v,.int .i64 6])/\w.gb x Lw/\aC w.heap.size x.heap.size x v (bD n)/\∀(G:MN) (m c:Ly),v=.slice (Lq G) m c->∃d e f,x.heap[G.block]?=Lq (.cells d e f)/\∀(i:Ly) u,d[i]?=Lq u->∃k m,u=.int k m:=by
 obtain⟨A,y⟩:∃A,A=w.heap.size:=⟨_,rfl⟩;obtain⟨s,l⟩:∃s,s=w.alloc (.cells #[.slice Lw 0 0,.int .i64 0] 24):=⟨_,rfl⟩;have M:s.heap[A]?=Lq (.cells #[.slice Lw 0 0,.int .i64 0] 24 (0,0)):=by rw[l,y];exact LS w _
 have N:w.gb s Lw:=by rw[l];exact Lr _ _ Lw
 have⟨P,H,b,O⟩:=dD y l M N;clear y l M N;go_enter Tp.x80,Tryz.ntmps80;go_upto_region 1 with(fail);rw[<- P,<- H];have g:=Lu (Mf s Lw);have R:=aa (o:=0) b rfl;have Q:=aa (o:=1) b rfl;have U:=aB (o:=0) b;have f1:=aB (o:=1) b;have F:=(Lz.1 b).1;go_wp2_with (go_at_call 39;refine(yU _ _ _ _ _).mono ?_;rintro e a ⟨rfl,L⟩;replace g:=Lu (g.t L);replace R:=aa (o:=0) (bk g b) rfl;replace Q:=aa (o:=1) (bk g b) rfl;replace U:=aB (o:=0) (bk g b);replace f1:=aB (o:=1) (bk g b);replace F:=(Lz.1 (bk g b)).1;clear L);obtain⟨d,q⟩:∃d:LM LA,d=#[.int .i64 8,.int .i64 10,.int .i64 n,.int .i64 2,.int .i64 4,.int .i64 6,.int .i64 6,.int .i64 2,.int .i64 2,.int .i64 3,.int .i64 3,.int .i64 1,.int .i64 5,.int .i64 5,.int .i64 0,.int .i64 1]:=⟨_,rfl⟩;obtain⟨W,p⟩:∃W,W=((a.setCell ⟨A,0,Lw⟩ (.slice (Lq ⟨a.heap.size,0,Lw⟩) 4 4)).setCell ⟨A,1,Lw⟩ (.int .i64 6)).alloc (.cells d 28):=⟨_,rfl⟩;have S:((a.setCell ⟨A,0,Lw⟩ (.slice (Lq ⟨a.heap.size,0,Lw⟩) 4 4)).setCell ⟨A,1,Lw⟩ (.int .i64 6)).heap.size=a.heap.size:=by simp[NS]
 have C:W.heap[A]?=Lq (.cells #[.slice (Lq ⟨a.heap.size,0,Lw⟩) 4 4,.int .i64 6] 24 (0,0)):=by rw[p];exact aD (by rw[ar (ar (bk g b))];rfl)
 have r:W.heap[a.heap.size]?=Lq (.cells d 28 (0,0)):=by
  have:=LS ((a.setCell ⟨A,0,Lw⟩ (.slice (Lq ⟨a.heap.size,0,Lw⟩) 4 4)).setCell ⟨A,1,Lw⟩ (.int .i64 6)) (.cells d 28);rw[S,<- p] at this;exact this
 have y:=P.out;have D:w.gb W Lw:=((O.t g).andThen (row':=Lq A) ((an _ _ _ _).t (an _ _ _ _)) (by rintro j e;cases e;exact .inl (by omega))).t (by rw[p];exact Lr _ _ _);have z:=(O.t g).size;have B:a.heap.size<W.heap.size:=(Lz.1 r).1;rw[<- q,<- p];refine Ot (v:=.agg #[.slice (Lq ⟨a.heap.size,0,Lw⟩) 4 4,.int .i64 6]) (by simp[Om,Tryz.results80,go_sem,Mz,C]) rfl ⟨_,rfl,D,⟨Lq ⟨a.heap.size,0,Lw⟩,4,rfl,by simp[bD],λ_=>⟨a.heap.size,0,d,_,rfl,z,B,r,λi T=>?_⟩⟩,λG m c e=>?_⟩;rotate_left
 ·cases e;refine⟨d,_,_,r,λi u I=>?_⟩;rw[q] at I;have hm:=NN I;simp only[Pl,MK,NQ,or_false] at hm;rcases hm with h | h | h | h | h | h | h | h | h | h | h | h | h | h | h | h<;>exact⟨_,_,h⟩
 obtain rfl | rfl | rfl | rfl:i=0\/i=1\/i=2\/i=3:=by simp[bD] at T;omega
 all_goals
  rw[q];exact⟨_,rfl,rfl,rfl,rfl,rfl⟩
def fh:∀(n:Ly) (l:Lx LJ),l.Nodup->(∀x∈l,0<=x/\x<n)->l.length<=n
 | 0,l,_,h=>by
  cases l with
  | nil=>simp
  | cons x _=>have:=h x (by simp);omega
 | n+1,l,b,h=>by
  by_cases hm:(n:LJ)∈l
  ·have d:=fh n (l.erase n) (b.erase _) λx a=>by
    have c:=(b.mem_erase_iff).1 a;have:=h x c.2;have:=c.1;omega
   have:=Se hm;omega
  ·have:=fh n l b λx a=>by
    have c:=h x a;have:x≠n:=λe=>hm (e ▸ a);omega
   omega
structure OnAt(w:Lt)(Bm Y Bp:Ly)(yb pb:LU MN)(yc pc:Ly)(ps:Lx Par)(lim:LJ)(l:Lx LJ):Prop where
 m0:w.cell? Bm=Lq (.int .u8 (aP l:Ly))
 y0:w.cell? Y=Lq (.slice yb ps.length yc)
 y1:w.cell? ⟨Y,1,Lw⟩=Lq (.int .i64 lim)
 p0:w.cell? Bp=Lq (.slice pb l.length pc)
 hP:aC 0 w.heap.size w (.slice yb ps.length yc) ps
 hI:ai 0 w.heap.size w (.slice pb l.length pc) l
 pl:l.length<=pc
end
section

end
section
open Go.RowKit
@[simp] theorem KH(w:Lt):(method 355 170 (.agg #[]) "gladstone/pile.holds").run Ya w=.ok (241,.agg #[]) w:=by kernel_rfl
@[simp] theorem KG(w:Lt):(method 355 171 (.agg #[]) "gladstone/pile.holds").run Ya w=.ok (242,.agg #[]) w:=by kernel_rfl
end
section
def lT{b:Lx Par}{g:Ly->LJ}{l:Lx LJ}:aL b g l=LG↔∀k,k<l.length->uG b g l k=LG:=by
 unfold aL;rw[MD];exact⟨λh k a=>h k (Nj.2 a),λh k a=>h k (Nj.1 a)⟩
def El(n:Ly):Ly->Lx (Lx LJ)
 | 0=>[[]]
 | k+1=>(Mr n).flatMap λ(i:Ly)=>(El n k).map λl=>(i:LJ)::l
def IZ(l:Lx LJ)(k:Ly):MC:=(Mr k).all λ(i:Ly)=>l.contains (i:LJ)
def Gr(n:Ly):Lx (Lx LJ):=(El n n).filter λl=>IZ l n
def qa{x y:LJ}:iC x y<0↔x<y:=by unfold iC;split<;>(try split)<;>omega
def nG{x y:LJ}:iC x y=0↔x=y:=by unfold iC;split<;>(try split)<;>omega
def gR:∀{a b c:Lx LJ},bC a b<0->bC b c<0->bC a c<0
 | [],b,[],f,d=>by cases b<;>simp[bC] at f d
 | [],_,_::_,_,_=>by simp[bC]
 | _::_,[],_,f,_=>by simp[bC] at f
 | _::_,_::_,[],_,d=>by simp[bC] at d
 | x::a,y::b,z::c,f,d=>by
  simp only[bC] at f d ⊢;by_cases h:iC x y=0
  ·rw[if_neg (by simpa using h)] at f;have e:=nG.1 h;subst e;by_cases g:iC x z=0
   ·rw[if_neg (by simpa using g)] at d ⊢;exact gR f d
   ·rw[if_pos g] at d ⊢;exact d
  ·rw[if_pos h] at f;have k:=qa.1 f;by_cases g:iC y z=0
   ·have e:=nG.1 g;subst e;rw[if_pos h];exact f
   ·rw[if_pos g] at d;have j:=qa.1 d;have i:iC x z<0:=qa.2 (by omega);rw[if_pos (by omega)];exact i
def dE:∀a:Lx LJ,bC a a=0
 | []=>rfl
 | x::a=>by simp[bC,nG.2 rfl,dE a]
def JU(l s:Lx LJ):Lx LJ:=s.map λj=>l[j.toNat]?.getD 0
def IN(c:Lx LJ):Lx (Lx LJ):=(Gr c.length).map (JU c)
structure SetOk(n:Ly)(c:Lx LJ):Prop where
 eq:IN c=bV c
 pw:(bV c).Pairwise (λa c=>bC a c<0)
 pm:∀x∈bV c,x.Perm c
 mem:∀x∈c,0<=x/\x<n
 nd:c.Nodup
 len:c.length<=n
end
section
open Go.RowKit
def lev(S:Lx (Lx LJ)):Ly->Lx Rec
 | 0=>[([],0)]
 | k+1=>cZ S (lev S k)
def BD(l:Lx LJ)(m:Ly):l.foldl (λm x=>m ||| 2 ^ x.toNat) m=m ||| aP l:=by
 induction l generalizing m with
 | nil=>simp[aP]
 | cons x l a=>
  unfold aP;rw[OI,OI,a,a (0 ||| 2 ^ x.toNat),Nat.zero_or,Nat.or_assoc]
def oX(a b:Lx LJ):aP (a++b)=aP a ||| aP b:=by
 show(a++b).foldl _ 0=_;rw[Rs,BD];rfl
structure pB(S rows:Lx (Lx LJ)):Prop where
 sub:∀s∈rows,s∈S
 asc:rows.Pairwise λa b=>cf a<cf b
 dis:rows.Pairwise λa b=>∀x∈a,x∉b
def Gw{a b:Lx LJ}(n:∀x∈a,0<=x)(l:∀x∈b,0<=x):aP a &&& aP b=0↔∀x∈a,x∉b:=by
 constructor
 ·intro h x c d;have g:=(da a x.toNat).2 ⟨x,c,rfl⟩;have f:=(da b x.toNat).2 ⟨x,d,rfl⟩;have k:(aP a &&& aP b).testBit x.toNat=LG:=by rw[WL,g,f];rfl
  rw[h] at k;simp at k
 ·intro h;apply UX;intro i;rw[WL,Nat.zero_testBit];cases g:(aP a).testBit i with
  | false=>rfl
  | true=>
   cases f:(aP b).testBit i with
   | false=>rfl
   | true=>
    have⟨x,c,p⟩:=(da a i).1 g;have⟨y,j,o⟩:=(da b i).1 f;have e:x=y:=by have:=n x c;have:=l y j;omega
    subst e;exact absurd j (h x c)
def ze(r:Lx (Lx LJ))(s:Lx LJ):qX (r++[s])=s:=by simp[qX]
def rn{S r:Lx (Lx LJ)}{s:Lx LJ}(k:∀t∈S,∀x∈t,0<=x)(g:pB S r)(j:s∈S):okF (r,aP r.flatten) s=LG↔pB S (r++[s]):=by
 have l:aP r.flatten &&& aP s=0↔∀a∈r,∀x∈a,x∉s:=by
  rw[Gw (λx d=>by have⟨a,c,d⟩:=QQ.1 d;exact k a (g.sub a c) x d) (k s j)];constructor
  ·exact λh a c x d=>h x (QQ.2 ⟨a,c,d⟩)
  ·intro h x d;have⟨a,c,d⟩:=QQ.1 d;exact h a c x d
 have c:(!(decide (0<r.length) && decide (cf s<=cf (qX r))))=LG↔∀a∈r,cf a<cf s:=by
  rcases UI r with rfl | ⟨q,t,rfl⟩
  ·simp
  ·rw[SX,ze];have i:0<(q++[t]).length:=by simp
   rw[decide_eq_true i,Tl];constructor
   ·intro h a c;have n:cf t<cf s:=by simpa using h
    rcases Ob.1 c with c | c
    ·have:=(Oj.1 (by rw[<- SX];exact g.asc)).2.2 a c t (by simp);omega
    ·rw[Nl.1 c];exact n
   ·intro h;have:=h t (by simp);simp;omega
 unfold okF;rw[Mg,c,decide_eq_true_eq,l];constructor
 ·intro h;refine⟨λt f=>?_,Oj.2 ⟨g.asc,by simp,λa e b i=>?_⟩,Oj.2 ⟨g.dis,by simp,λa e b i=>?_⟩⟩
  ·rcases Ob.1 f with f | f
   ·exact g.sub t f
   ·rw[Nl.1 f];exact j
  ·rw[Nl.1 i];exact h.1 a e
  ·rw[Nl.1 i];exact h.2 a e
 ·intro h;exact⟨λa e=>(Oj.1 h.asc).2.2 a e s (by simp),λa e=>(Oj.1 h.dis).2.2 a e s (by simp)⟩
def pB.init{S r:Lx (Lx LJ)}{s:Lx LJ}(h:pB S (r++[s])):pB S r/\s∈S :=
 ⟨⟨λt a=>h.sub t (by simp[a]),(Oj.1 h.asc).1,(Oj.1 h.dis).1⟩,h.sub s (by simp)⟩
def mZ{S:Lx (Lx LJ)}(d:∀t∈S,∀x∈t,0<=x):∀(k:Ly) (p:Rec),p∈lev S k↔p.1.length=k/\pB S p.1/\p.2=aP p.1.flatten
 | 0,p=>by
  constructor
  ·intro h;rw[show p=([],0) from Nl.1 h];exact⟨rfl,⟨by simp,.nil,.nil⟩,rfl⟩
  ·rintro⟨b,-,c⟩;obtain⟨r,u⟩:=p;obtain rfl:r=[]:=MT b;have:u=0:=c;subst this;exact Nl.2 rfl
 | k+1,p=>by
  constructor
  ·intro h;have⟨q,v,a⟩:=Ox.1 h;obtain⟨s,o,rfl⟩:=Nt.1 a;have⟨f,e⟩:=Oa.1 o;have⟨n,l,j⟩:=(mZ d k q).1 v;obtain⟨r,u⟩:=q;dsimp only at n l j;subst j;refine⟨by simp[jJ,n],(rn d l f).1 e,?_⟩;simp[jJ,oX]
  ·rintro⟨b,a,c⟩;obtain⟨r,u⟩:=p;dsimp only at b a c;rcases UI r with rfl | ⟨q,s,rfl⟩
   ·simp at b
   ·rw[SX] at b a c ⊢;have⟨i,g⟩:=a.init;refine Ox.2 ⟨(q,aP q.flatten),(mZ d k _).2 ⟨by simpa using b,i,rfl⟩,Nt.2 ⟨s,Oa.2 ⟨g,(rn d i g).2 a⟩,?_⟩⟩;rw[c];simp[jJ,oX]
def xB{S:Lx (Lx LJ)}{all k:Ly}{p:Rec}(c:(lev S k).find? (λp=>p.2 == all)=Lq p)(a:∀j,j<k->(lev S j).find? (λp=>p.2 == all)=Lw)(g:∀j,(lev S j).length<=1300000)(b:∀j,j<=k->lev S j≠[]) :∀(d m f:Ly),m+d=k->d<f->sx f S all (lev S m)=Lq (Lq p.1)
 | d,m,0,_,h=>by omega
 | 0,m,f+1,e,_=>by
  obtain rfl:m=k:=by omega
  unfold sx;rw[c]
 | d+1,m,f+1,e,h=>by
  unfold sx;rw[a m (by omega)];simp only;rw[if_pos (show(cZ S (lev S m)).length<=1300000 from g (m+1)),if_neg (show ¬ cZ S (lev S m)=[] from b (m+1) (by omega))];exact xB c a g b d (m+1) f (by omega) (by omega)
structure jl(S:Lx (Lx LJ))(n:Ly)(R:Lx (Lx LJ)):Prop where
 good:pB S R
 all:∀x:Ly,x<n->∃s∈R,(x:LJ)∈s
def oJ{S:Lx (Lx LJ)}{n:Ly}(f:∀t∈S,∀x∈t,0<=x/\x<n){R:Lx (Lx LJ)}(d:pB S R):aP R.flatten=aP (aJ n)↔jl S n R:=by
 have hm:∀i,(aP (aJ n)).testBit i=LG↔i<n:=λi=>by
  rw[da];constructor
  ·rintro⟨x,a,rfl⟩;have:=dM a;omega
  ·intro h;exact⟨(i:LJ),by unfold aJ;exact Nt.2 ⟨i,Nj.2 h,rfl⟩,rfl⟩
 constructor
 ·intro h;refine⟨d,λx a=>?_⟩;have g:=(hm x).2 a;rw[<- h] at g;have⟨y,c,e⟩:=(da _ _).1 g;have⟨s,b,c⟩:=QQ.1 c;have:=f s (d.sub s b) y c;have k:y=(x:LJ):=by omega
  exact⟨s,b,k ▸ c⟩
 ·intro h;apply UX;intro i;rw[Bool.eq_iff_iff,hm i,da];constructor
  ·rintro⟨x,a,rfl⟩;have⟨s,b,a⟩:=QQ.1 a;have:=f s (d.sub s b) x a;omega
  ·intro j;have⟨s,b,a⟩:=h.all i j;exact⟨(i:LJ),QQ.2 ⟨s,b,a⟩,rfl⟩
def Ep{S:Lx (Lx LJ)}:∀(d j:Ly),lev S (j+d)≠[]->lev S j≠[]
 | 0,_,h=>h
 | d+1,j,h=>Ep d j λe=>h (by rw[show j+(d+1)=(j+d)+1 by omega];unfold lev;rw[e];rfl)
def yX{S:Lx (Lx LJ)}{n:Ly}(e:∀x:Ly,x<n->[(x:LJ)]∈S):jl S n ((Mr n).map λ(i:Ly)=>[(i:LJ)]):=by
 refine⟨⟨λs c=>?_,?_,?_⟩,λx b=>⟨[(x:LJ)],Nt.2 ⟨x,Nj.2 b,rfl⟩,by simp⟩⟩
 ·obtain⟨i,d,rfl⟩:=Nt.1 c;exact e i (Nj.1 d)
 ·rw[Qc];exact List.pairwise_lt_range.imp λh=>by simp[cf];omega
 ·rw[Qc];exact List.pairwise_lt_range.imp λh x b a=>by
   simp at b a;omega
def Ji{S:Lx (Lx LJ)}{n:Ly}(g:∀t∈S,∀x∈t,0<=x/\x<n)(H:∀x:Ly,x<n->[(x:LJ)]∈S)(G:∀j,(lev S j).length<=1300000)(Q:n<=5) :∃(k:Ly) (p:Rec),(lev S k).find? (λp=>p.2 == aP (aJ n))=Lq p/\sx 10 S (aP (aJ n)) [([],0)]=Lq (Lq p.1)/\p.1.length=k/\k<=n/\jl S n p.1/\∀R,jl S n R->k<=R.length:=by
 have c:∀t∈S,∀x∈t,0<=x:=λt B x A=>(g t B x A).1;have C:(λk=>∃R,jl S n R/\R.length=k) n:=⟨_,yX H,by simp⟩;obtain⟨⟨R,w,y⟩,-⟩:=fl (λk=>∃R,jl S n R/\R.length=k) n n (LC _) C;have a:=λm hm d=>(fl (λk=>∃R,jl S n R/\R.length=k) n m hm d).2;have f:=qW (λk=>∃R,jl S n R/\R.length=k) n;generalize ni (λk=>∃R,jl S n R/\R.length=k) n=k at y a f;have b:(R,aP R.flatten)∈lev S k:=(mZ c k _).2 ⟨y,w.good,rfl⟩;have u:=(oJ g w.good).2 w;obtain⟨p,d⟩:∃p,(lev S k).find? (λp=>p.2 == aP (aJ n))=Lq p:=by
  cases h:(lev S k).find? (λp=>p.2 == aP (aJ n)) with
  | some p=>exact⟨p,rfl⟩
  | none=>
   have:=Qt.1 h _ b;simp[u] at this
 have l:=TR d;have o:p.2=aP (aJ n):=by have:=List.find?_some d;simpa using this
 have⟨M,L,I⟩:=(mZ c k p).1 l;have F:jl S n p.1:=(oJ g L).1 (by rw[<- I,o]);have r:∀j,j<k->(lev S j).find? (λp=>p.2 == aP (aJ n))=Lw:=λj D=>by
  cases h:(lev S j).find? (λp=>p.2 == aP (aJ n)) with
  | none=>rfl
  | some q=>
   have i:q.2=aP (aJ n):=by have:=List.find?_some h;simpa using this
   have⟨P,O,N⟩:=(mZ c j q).1 (TR h);have:=a j (by omega) ⟨q.1,(oJ g O).1 (by rw[<- N,i]),P⟩;omega
 have s:∀j,j<=k->lev S j≠[]:=λj D=>Ep (k - j) j (by rw[show j+(k - j)=k by omega];exact λe=>by rw[e] at b;cases b);refine⟨k,p,d,xB d r G s k 0 10 (by omega) (by omega),M,f,F,λz v=>?_⟩;by_cases h:z.length<=n
 ·exact a _ h ⟨z,v,rfl⟩
 ·omega
def yR(n:Ly):Lx (Lx LJ):=((cy (aJ n) 0).flatMap bV).filter λs=>!s.isEmpty
def kW(b:Lx Par)(a:LJ):dY b a (cy (aJ b.length) 0)=(yR b.length).filter (aY b a):=by
 unfold dY yR;rw[VI,List.filter_flatMap]
 congr 1
 funext c
 unfold tg
 congr 1
 funext o
 rw[Bool.and_comm]
def AC(u:Ly):Ly:=(Mr 5).countP u.testBit
def vO(k:Ly):Ly:=[325,64,15,4,1][k]?.getD 0
def Jq(n:Ly):MC:=(Mr 32).all λu=>Nat.ble ((yR n).countP λs=>UB (UY u (aP s)) 0) (vO (AC u))
def Fs:∀n,n<=5->Jq n=LG
 | 0,_=>by kernel_rfl
 | 1,_=>by kernel_rfl
 | 2,_=>by kernel_rfl
 | 3,_=>by kernel_rfl
 | 4,_=>by kernel_rfl
 | 5,_=>by kernel_rfl
 | n+6,h=>by omega
def Cs:((Mr 32).all λu=>(Mr 32).all λm=>!(UB (UY u m) 0) || UB m 0 || Nat.ble (AC u+1) (AC (Nat.lor u m)) && Nat.blt (Nat.lor u m) 32)=LG:=by kernel_rfl
def xa{S:Lx (Lx LJ)}(g:∀t∈S,t≠[]/\∀x∈t,0<=x/\x<5):∀k p,p∈lev S k->p.2<32/\k<=AC p.2
 | 0,p,h=>by rw[show p=([],0) from Nl.1 h];exact⟨by decide,Mw _⟩
 | k+1,p,h=>by
  have⟨q,n,u⟩:=Ox.1 h;obtain⟨s,j,rfl⟩:=Nt.1 u;have⟨c,a⟩:=Oa.1 j;have⟨r,o⟩:=xa g k q n;have⟨d,l⟩:=g s c;have hm:aP s<32:=ir s 5 λx i=>by have:=l x i;omega
  have f:aP s≠0:=λe=>by
   cases s with
   | nil=>exact d rfl
   | cons x t=>
    have:=(da (x::t) x.toNat).2 ⟨x,by simp,rfl⟩;rw[e] at this;simp at this
  unfold okF at a;rw[Mg,decide_eq_true_eq] at a;have b:=MD.1 (MD.1 Cs q.2 (Nj.2 r)) (aP s) (Nj.2 hm);have w:UB (UY q.2 (aP s)) 0=LG:=by rw[Xg];exact a.2
  have v:UB (aP s) 0=LH:=by rw[Bool.eq_false_iff];exact λh=>f (by rwa [Xg] at h)
  rw[w,v] at b;simp only[Ri,Bool.false_or,Mg,Nat.ble_eq,Nat.blt_eq] at b;exact⟨b.2,LN (Nat.add_le_add_right o 1) b.1⟩
def tN{Y M:Type}(g:Y->Lx M)(m:Ly):∀L:Lx Y,(∀a∈L,(g a).length<=m)->(L.flatMap g).length<=L.length*m
 | [],_=>by simp
 | a::L,h=>by
  have e:=tN g m L λb c=>h b (by simp[c]);have d:=h a (by simp);rw[Oo,Na,LX,Sx,Nat.one_mul];omega
def CX:∀a b:Ly,a<=b->vO b<=vO a:=by
 intro a b h;by_cases c:5<=b
 ·have:vO b=0:=by unfold vO;rw[Nc (by simp;omega)];rfl
  omega
 ·have:b=0\/b=1\/b=2\/b=3\/b=4:=by omega
  have:a=0\/a=1\/a=2\/a=3\/a=4:=by omega
  rcases ‹b=0\/_› with rfl | rfl | rfl | rfl | rfl<;>rcases ‹a=0\/_› with rfl | rfl | rfl | rfl | rfl<;>first | decide | omega
def Eo{a:Lx Par}{b:LJ}(g:a.length<=5){S:Lx (Lx LJ)}(e:S.Perm (dY a b (cy (aJ a.length) 0)))(f:∀t∈S,t≠[]/\∀x∈t,0<=x/\x<5)(k:Ly):(lev S (k+1)).length<=(lev S k).length*vO k:=by
 refine tN _ _ _ λp c=>?_;have⟨j,i⟩:=xa f k p c;rw[On,<- Tw];have n:S.countP (okF p)<=S.countP λs=>UB (UY p.2 (aP s)) 0:=List.countP_mono_left λs _ h=>by
  unfold okF at h;rw[Mg,decide_eq_true_eq] at h;rw[Xg];exact h.2
 have l:(S.countP λs=>UB (UY p.2 (aP s)) 0)<=(yR a.length).countP λs=>UB (UY p.2 (aP s)) 0:=by
  rw[e.countP_eq,kW];exact List.filter_sublist.countP_le
 have d:=MD.1 (Fs a.length g) p.2 (Nj.2 j);rw[Nat.ble_eq] at d;exact LN n (LN l (LN d (CX _ _ i)))
def BI{a:Lx Par}{b:LJ}(g:a.length<=5){S:Lx (Lx LJ)}(d:S.Perm (dY a b (cy (aJ a.length) 0)))(e:∀t∈S,t≠[]/\∀x∈t,0<=x/\x<5):∀k,(lev S k).length<=1300000:=by
 have s:=Eo g d e;have n:(lev S 0).length=1:=rfl;have l:(lev S 1).length<=325:=LN (s 0) (by rw[n];decide);have j:(lev S 2).length<=20800:=LN (s 1) (LN (PF _ l) (by decide));have i:(lev S 3).length<=312000:=LN (s 2) (LN (PF _ j) (by decide));have h:(lev S 4).length<=1248000:=LN (s 3) (LN (PF _ i) (by decide));have o:(lev S 5).length<=1248000:=LN (s 4) (LN (PF _ h) (by decide));have f:∀k,(lev S (6+k)).length=0:=λk=>by
  have c:vO (5+k)=0:=by unfold vO;rw[Nc (by simp)];try rfl
  have:=s (5+k);rw[c,Nat.mul_zero] at this;rw[show 6+k=5+k+1 by omega];omega
 intro k
 match k with
 | 0=>omega
 | 1=>omega
 | 2=>omega
 | 3=>omega
 | 4=>omega
 | 5=>omega
 | k+6=>rw[show k+6=6+k by omega,f];omega
end
section
open Go.RowKit Go.Shelf Go.Sort
def sortR0:Go.Shelf.Ren:=⟨fun | 6=>121 | 15=>156 | 14=>155 | 28=>196 | 29=>197 | 20=>188 | 21=>189 | 22=>190 | 23=>191 | 24=>192 | 25=>193 | 26=>194 | 27=>195 | 46=>206 | 47=>207 | 48=>208 | 49=>209 | 50=>210 | 57=>220 | n=>n,fun | 22=>36 | 24=>29 | 25=>124 | 3=>3 | 39=>177 | 0=>0 | 53=>159 | 55=>87 | 4=>4 | 46=>208 | 45=>207 | 50=>122 | 5=>5 | 9=>9 | 66=>223 | 70=>226 | 76=>233 | 77=>234 | n=>n,fun | n=>n⟩
def IK:Go.Proofs.SlLaysF.n6 Ma sortR0:={
 mixed:=by kernel_rfl
 f6:=⟨Tryz.f121.name,by decide,Tryz.func121.t (congrArg Lq (by kernel_rfl))⟩
 f14:=⟨Tryz.f155.name,by decide,Tryz.func155.t (congrArg Lq (by kernel_rfl))⟩
 f15:=Tryz.func156.t (congrArg Lq (by kernel_rfl))
 f20:=⟨Tryz.f188.name,by decide,Tryz.func188.t (congrArg Lq (by kernel_rfl))⟩
 f21:=⟨Tryz.f189.name,by decide,Tryz.func189.t (congrArg Lq (by kernel_rfl))⟩
 f22:=⟨Tryz.f190.name,by decide,Tryz.func190.t (congrArg Lq (by kernel_rfl))⟩
 f23:=⟨Tryz.f191.name,by decide,Tryz.func191.t (congrArg Lq (by kernel_rfl))⟩
 f24:=⟨Tryz.f192.name,by decide,Tryz.func192.t (congrArg Lq (by kernel_rfl))⟩
 f25:=⟨Tryz.f193.name,by decide,Tryz.func193.t (congrArg Lq (by kernel_rfl))⟩
 f26:=⟨Tryz.f194.name,by decide,Tryz.func194.t (congrArg Lq (by kernel_rfl))⟩
 f27:=⟨Tryz.f195.name,by decide,Tryz.func195.t (congrArg Lq (by kernel_rfl))⟩
 f28:=Tryz.func196.t (congrArg Lq (by kernel_rfl))
 f29:=Tryz.func197.t (congrArg Lq (by kernel_rfl))
 f46:=⟨Tryz.f206.name,by decide,Tryz.func206.t (congrArg Lq (by kernel_rfl))⟩
 f47:=Tryz.func207.t (congrArg Lq (by kernel_rfl))
 f48:=Tryz.func208.t (congrArg Lq (by kernel_rfl))
 f49:=⟨Tryz.f209.name,by decide,Tryz.func209.t (congrArg Lq (by kernel_rfl))⟩
 f50:=⟨Tryz.f210.name,by decide,Tryz.func210.t (congrArg Lq (by kernel_rfl))⟩
 f57:=⟨Tryz.f220.name,by decide,Tryz.func220.t (congrArg Lq (by kernel_rfl))⟩
 t0:=Tryz.underlying0
 a0:=Tryz.isAgg0
 z0:=Tryz.sizeOf0
 v0:=Tryz.zeroValue0
 t3:=Tryz.underlying3
 a3:=Tryz.isAgg3
 z3:=Tryz.sizeOf3
 v3:=Tryz.zeroValue3
 t4:=Tryz.underlying4
 a4:=Tryz.isAgg4
 z4:=Tryz.sizeOf4
 v4:=Tryz.zeroValue4
 t5:=Tryz.underlying5
 a5:=Tryz.isAgg5
 z5:=Tryz.sizeOf5
 v5:=Tryz.zeroValue5
 t9:=Tryz.underlying9
 a9:=Tryz.isAgg9
 z9:=Tryz.sizeOf9
 v9:=Tryz.zeroValue9
 t22:=Tryz.underlying36
 a22:=Tryz.isAgg36
 z22:=Tryz.sizeOf36
 v22:=Tryz.zeroValue36
 a24:=Tryz.isAgg29
 z24:=Tryz.sizeOf29
 t25:=Tryz.underlying124
 a25:=Tryz.isAgg124
 z25:=Tryz.sizeOf124
 v25:=Tryz.zeroValue124
 t39:=Tryz.underlying177
 a39:=Tryz.isAgg177
 z39:=Tryz.sizeOf177
 v39:=Tryz.zeroValue177
 t45:=Tryz.underlying207
 a45:=Tryz.isAgg207
 z45:=Tryz.sizeOf207
 v45:=Tryz.zeroValue207
 t46:=Tryz.underlying208
 a46:=Tryz.isAgg208
 z46:=Tryz.sizeOf208
 v46:=Tryz.zeroValue208
 t50:=Tryz.underlying122
 a50:=Tryz.isAgg122
 z50:=Tryz.sizeOf122
 v50:=Tryz.zeroValue122
 t53:=Tryz.underlying159
 a53:=Tryz.isAgg159
 z53:=Tryz.sizeOf159
 v53:=Tryz.zeroValue159
 t55:=Tryz.underlying87
 a55:=Tryz.isAgg87
 z55:=Tryz.sizeOf87
 v55:=Tryz.zeroValue87
 t66:=Tryz.underlying223
 a66:=Tryz.isAgg223
 z66:=Tryz.sizeOf223
 v66:=Tryz.zeroValue223
 t70:=Tryz.underlying226
 a70:=Tryz.isAgg226
 z70:=Tryz.sizeOf226
 v70:=Tryz.zeroValue226
 t76:=Tryz.underlying233
 a76:=Tryz.isAgg233
 z76:=Tryz.sizeOf233
 v76:=Tryz.zeroValue233
 t77:=Tryz.underlying234
 a77:=Tryz.isAgg234
 z77:=Tryz.sizeOf234
 v77:=Tryz.zeroValue234 }
def nU{i:Ly}(h:i≠85):Ya.funcs[i]?=Tryz.prog.funcs[i]?:=by
 unfold Ya;exact ML (Ne.symm h)
def bI{i:Ly}{B:Func}(h:i≠85):Bears Ma i B->Bears Ya i B:=λ⟨a,c,b⟩=>⟨a,c,(nU h).t b⟩
def Tp.sortL:SlLaysF.n6 Ya sortR0 :=
 have L:=IK
 {
  mixed:=by kernel_rfl
  f6:=bI (by decide) L.f6
  f14:=bI (by decide) L.f14
  f15:=(nU (by decide)).t L.f15
  f20:=bI (by decide) L.f20
  f21:=bI (by decide) L.f21
  f22:=bI (by decide) L.f22
  f23:=bI (by decide) L.f23
  f24:=bI (by decide) L.f24
  f25:=bI (by decide) L.f25
  f26:=bI (by decide) L.f26
  f27:=bI (by decide) L.f27
  f28:=(nU (by decide)).t L.f28
  f29:=(nU (by decide)).t L.f29
  f46:=bI (by decide) L.f46
  f47:=(nU (by decide)).t L.f47
  f48:=(nU (by decide)).t L.f48
  f49:=bI (by decide) L.f49
  f50:=bI (by decide) L.f50
  f57:=bI (by decide) L.f57
  t0:=(Tp.und _).t L.t0
  a0:=λw=>(Tp.rIsAgg w _).t (L.a0 w)
  z0:=λw=>(Tp.rSizeOf w _).t (L.z0 w)
  v0:=λw=>(Tp.rZero w _).t (L.v0 w)
  t3:=(Tp.und _).t L.t3
  a3:=λw=>(Tp.rIsAgg w _).t (L.a3 w)
  z3:=λw=>(Tp.rSizeOf w _).t (L.z3 w)
  v3:=λw=>(Tp.rZero w _).t (L.v3 w)
  t4:=(Tp.und _).t L.t4
  a4:=λw=>(Tp.rIsAgg w _).t (L.a4 w)
  z4:=λw=>(Tp.rSizeOf w _).t (L.z4 w)
  v4:=λw=>(Tp.rZero w _).t (L.v4 w)
  t5:=(Tp.und _).t L.t5
  a5:=λw=>(Tp.rIsAgg w _).t (L.a5 w)
  z5:=λw=>(Tp.rSizeOf w _).t (L.z5 w)
  v5:=λw=>(Tp.rZero w _).t (L.v5 w)
  t9:=(Tp.und _).t L.t9
  a9:=λw=>(Tp.rIsAgg w _).t (L.a9 w)
  z9:=λw=>(Tp.rSizeOf w _).t (L.z9 w)
  v9:=λw=>(Tp.rZero w _).t (L.v9 w)
  t22:=(Tp.und _).t L.t22
  a22:=λw=>(Tp.rIsAgg w _).t (L.a22 w)
  z22:=λw=>(Tp.rSizeOf w _).t (L.z22 w)
  v22:=λw=>(Tp.rZero w _).t (L.v22 w)
  a24:=λw=>(Tp.rIsAgg w _).t (L.a24 w)
  z24:=λw=>(Tp.rSizeOf w _).t (L.z24 w)
  t25:=(Tp.und _).t L.t25
  a25:=λw=>(Tp.rIsAgg w _).t (L.a25 w)
  z25:=λw=>(Tp.rSizeOf w _).t (L.z25 w)
  v25:=λw=>(Tp.rZero w _).t (L.v25 w)
  t39:=(Tp.und _).t L.t39
  a39:=λw=>(Tp.rIsAgg w _).t (L.a39 w)
  z39:=λw=>(Tp.rSizeOf w _).t (L.z39 w)
  v39:=λw=>(Tp.rZero w _).t (L.v39 w)
  t45:=(Tp.und _).t L.t45
  a45:=λw=>(Tp.rIsAgg w _).t (L.a45 w)
  z45:=λw=>(Tp.rSizeOf w _).t (L.z45 w)
  v45:=λw=>(Tp.rZero w _).t (L.v45 w)
  t46:=(Tp.und _).t L.t46
  a46:=λw=>(Tp.rIsAgg w _).t (L.a46 w)
  z46:=λw=>(Tp.rSizeOf w _).t (L.z46 w)
  v46:=λw=>(Tp.rZero w _).t (L.v46 w)
  t50:=(Tp.und _).t L.t50
  a50:=λw=>(Tp.rIsAgg w _).t (L.a50 w)
  z50:=λw=>(Tp.rSizeOf w _).t (L.z50 w)
  v50:=λw=>(Tp.rZero w _).t (L.v50 w)
  t53:=(Tp.und _).t L.t53
  a53:=λw=>(Tp.rIsAgg w _).t (L.a53 w)
  z53:=λw=>(Tp.rSizeOf w _).t (L.z53 w)
  v53:=λw=>(Tp.rZero w _).t (L.v53 w)
  t55:=(Tp.und _).t L.t55
  a55:=λw=>(Tp.rIsAgg w _).t (L.a55 w)
  z55:=λw=>(Tp.rSizeOf w _).t (L.z55 w)
  v55:=λw=>(Tp.rZero w _).t (L.v55 w)
  t66:=(Tp.und _).t L.t66
  a66:=λw=>(Tp.rIsAgg w _).t (L.a66 w)
  z66:=λw=>(Tp.rSizeOf w _).t (L.z66 w)
  v66:=λw=>(Tp.rZero w _).t (L.v66 w)
  t70:=(Tp.und _).t L.t70
  a70:=λw=>(Tp.rIsAgg w _).t (L.a70 w)
  z70:=λw=>(Tp.rSizeOf w _).t (L.z70 w)
  v70:=λw=>(Tp.rZero w _).t (L.v70 w)
  t76:=(Tp.und _).t L.t76
  a76:=λw=>(Tp.rIsAgg w _).t (L.a76 w)
  z76:=λw=>(Tp.rSizeOf w _).t (L.z76 w)
  v76:=λw=>(Tp.rZero w _).t (L.v76 w)
  t77:=(Tp.und _).t L.t77
  a77:=λw=>(Tp.rIsAgg w _).t (L.a77 w)
  z77:=λw=>(Tp.rSizeOf w _).t (L.z77 w)
  v77:=λw=>(Tp.rZero w _).t (L.v77 w) }
def Fa(x y:LJ):iC x y=- iC y x:=by
 unfold iC;split<;>split<;>(try split)<;>(try split)<;>omega
def nF:∀a b:Lx LJ,bC a b=- bC b a
 | [],[]=>rfl
 | [],_::_=>rfl
 | _::_,[]=>rfl
 | x::a,y::b=>by
  simp only[bC];have h:=Fa x y;by_cases e:iC x y=0
  ·rw[if_neg (by simpa using e),if_neg (by rw[h] at e;omega)];exact nF a b
  ·rw[if_pos e,if_pos (by rw[h] at e;omega)];exact h
def pZ:∀{a b:Lx LJ},bC a b=0->a=b
 | [],[],_=>rfl
 | [],_::_,h=>by simp[bC] at h
 | _::_,[],h=>by simp[bC] at h
 | x::a,y::b,h=>by
  simp only[bC] at h;by_cases e:iC x y=0
  ·rw[if_neg (by simpa using e)] at h;rw[nG.1 e,pZ h]
  ·rw[if_pos e] at h;exact absurd h e
def oS:∀{a b:Lx (Lx LJ)},a.Pairwise (λx y=>bC x y<0)->b.Pairwise (λx y=>bC x y<0)->(∀x,x∈a↔x∈b)->a=b
 | [],[],_,_,_=>rfl
 | [],y::b,_,_,h=>absurd ((h y).2 (by simp)) (by simp)
 | x::a,[],_,_,h=>absurd ((h x).1 (by simp)) (by simp)
 | x::a,y::b,j,i,h=>by
  have⟨g,n⟩:=PR.1 j;have⟨f,l⟩:=PR.1 i;have e:x=y:=by
   rcases MK.1 ((h x).1 (by simp)) with e | d
   ·exact e
   ·rcases MK.1 ((h y).2 (by simp)) with e | k
    ·exact e.symm
    ·have:=gR (g y k) (f x d);rw[dE] at this;omega
  subst e;refine congrArg _ (oS n l λz=>?_);constructor
  ·intro c;rcases MK.1 ((h z).1 (by simp[c])) with rfl | d
   ·have:=g z c;rw[dE] at this;omega
   ·exact d
  ·intro c;rcases MK.1 ((h z).2 (by simp[c])) with rfl | d
   ·have:=f z c;rw[dE] at this;omega
   ·exact d
def FD(a b:Ly)(w:Lt):Type:={ x:LA × Lx LJ // ai a b w x.1 x.2 }
instance (lo hi:Ly)(w:Lt):Inhabited (FD lo hi w):=⟨⟨(.slice Lw 0 0,[]),ai.nil _ _ _⟩⟩
def sC{lo hi:Ly}{w:Lt}(x:FD lo hi w):LA:=x.1.1
def cfE{lo hi:Ly}{w:Lt}(x y:FD lo hi w):LJ:=bC x.1.2 y.1.2
def KP{lo hi:Ly}{w:Lt}:SWO (ltOf (cfE (lo:=lo) (hi:=hi) (w:=w))) where
 irrefl x:=decide_eq_false (by unfold cfE;rw[dE];omega)
 trans x y z h1 h2:=decide_eq_true (gR (of_decide_eq_true h1) (of_decide_eq_true h2))
 ntrans x y z h1 h2:=decide_eq_false λc=>by
  have f:¬ bC x.1.2 y.1.2<0:=of_decide_eq_false h1;have a:¬ bC y.1.2 z.1.2<0:=of_decide_eq_false h2;have b:bC x.1.2 z.1.2<0:=c;have d:=nF x.1.2 y.1.2;by_cases e:bC y.1.2 x.1.2=0
  ·rw[pZ e] at a;exact a b
  ·exact a (gR (by omega) b)
def oN{Y:Type}[Inhabited Y](b:Y->LA)(w:Lt)(blk a m:Ly)(d:LM Y)(c:LM SQ):w.gb (sortWorld b w blk a m d c) (Lq blk):=by
 refine⟨rfl,rfl,rfl,?_,λk g f=>?_⟩
 ·show w.heap.size<=((putRow b (Sort.ahead w m) blk a d).heap++c).size;rw[Array.size_append,size_putRow];exact Ww _ _
 ·show((putRow b (Sort.ahead w m) blk a d).heap++c)[k]?=_;rw[PG (by rw[size_putRow];exact g)];unfold putRow mapBlock;simp only[Pt];rw[if_neg (λe=>f (by rw[e]))];rfl
def AK{Y:Type}[Inhabited Y](b:Y->LA)(w:Lt)(blk a m:Ly)(d:LM Y)(c:LM SQ){f:LM LA}{t:LZ}{e:Ly × Ly}(h:w.heap[blk]?=Lq (.cells f t e)) :(sortWorld b w blk a m d c).heap[blk]?=Lq (.cells (putCells b a d f) t e):=by
 show((putRow b (Sort.ahead w m) blk a d).heap++c)[blk]?=_;have g:=(Lz.1 h).1;rw[PG (by rw[size_putRow];exact g)];unfold putRow mapBlock;simp only[Pt,if_true];show Option.map (onCells (putCells b a d)) (w.heap[blk]?)=_;rw[h];rfl
def Gc{S g:Lx (Lx LJ)}(V:S.Perm g)(U:S.Pairwise λa b=>bC a b<0)(hl:g.length<=400)(lo hi B o c:Ly)(W:Lt)(hR:kR lo hi B o W g)(a6:hi<=W.heap.size) :MH Ya 121 #[.slice (Lq ⟨B,o,Lw⟩) g.length c,.func (.func 122) #[] #[]] W λe F=>e=.returned (.tuple #[])/\W.gb F (Lq B)/\kR lo hi B o F S:=by
 obtain⟨R,u,O⟩:=hR;obtain⟨d,s,N⟩:∃d:LM (FD lo hi W),d.size=g.length/\∀i,i<g.length->∃l,g[i]?=Lq l/\R[o+i]?=Lq (sC d[i]!)/\(d[i]!).1.2=l:=by
  have h:∀i,i<g.length->∃x:FD lo hi W,∃l,g[i]?=Lq l/\R[o+i]?=Lq (sC x)/\x.1.2=l:=λi hi=>by
   have⟨l,x,D,p,Q⟩:=O i hi;exact⟨⟨(x,l),Q⟩,l,D,p,rfl⟩
  refine⟨((Mr g.length).map λi=>if p:i<g.length then(h i p).choose else default).toArray,by simp,λi hi=>?_⟩;have e:(((Mr g.length).map λi=>if p:i<g.length then(h i p).choose else default).toArray[i]!)=(h i hi).choose:=by
   rw[getElem!_pos _ _ (by simpa using hi)];simp only[List.getElem_toArray,Wx,List.getElem_range];exact dif_pos hi
  rw[e];exact(h i hi).choose_spec
 have hW:=aH u;have hH:Holds sC W B o d:=λj H=>by
  obtain⟨l,-,p,-⟩:=N j (by omega);exact⟨aa u p,by simp[Pw,u]⟩
 have D:OneCell (sC (lo:=lo) (hi:=hi) (w:=W)):=λx=>by
  obtain⟨b,c,e,-,-⟩:=x.2.cell;unfold sC;rw[e];rfl
 have C:CmpLays1 Ya 122 #[] sC cfE B o d.size W:=λm G dk a7 x y=>by
  have X:=oN sC W B o m dk G;refine(pk lo hi lo hi x.1.1 y.1.1 x.1.2 y.1.2 _ (x.2.keptT X u (by decide)) (y.2.keptT X u (by decide))).mono ?_;rintro e F ⟨rfl,rfl⟩;exact⟨rfl,0,#[],by rw[grow_empty];rfl⟩
 have eg:∀q w,(callFunc 122 q).run Ya w=.ok (.enter 122 q) w:=enters_of Tp.x122 (by kernel_rfl) rfl;have h:=Any.slices_SortFunc Tp.sortL sC D cfE KP 122 #[] B o c d W eg C hH hW (by omega);change MH Ya 121 _ _ _ at h;rw[s] at h;refine h.mono ?_;rintro e F ⟨rfl,f,n,G,L,I,rfl⟩;have A:=oN sC W B o n f G;obtain⟨p1,-,T⟩:=L;rw[show f.extract 0 g.length=f by rw[show g.length=f.size by omega,VJ],show d.extract 0 g.length=d by rw[<- s,VJ]] at T;have Z:S.length=g.length:=V.length_eq;have r:d.toList.map (λx=>x.1.2)=g:=by
  apply QE;intro i;rw[NO];by_cases hi:i<g.length
  ·obtain⟨l,D,-,Q⟩:=N i hi;rw[D,Qu,Ml (by omega),Ng,<- Q,getElem!_pos d i (by omega)]
  ·rw[Nc (by simpa[s] using hi),Nc (by omega)];rfl
 have hS:f.toList.map (λx=>x.1.2)=S:=by
  have k:(f.toList.map λx=>x.1.2).Perm S:=(T.map _).t (by rw[r];exact V.symm);have M:(f.toList.map λx=>x.1.2).Nodup:=k.nodup_iff.2 (U.imp λh e=>by rw[e,dE] at h;omega);refine oS ?_ U λx=>k.mem_iff;rw[PN];intro i j hi H v;simp only[On,Tx] at hi H;have h5:=I i j (Mw _) v (by omega);have h6:¬ bC (f[j]!).1.2 (f[i]!).1.2<0:=of_decide_eq_false h5;rw[getElem!_pos f i hi,getElem!_pos f j H] at h6;have Y:=PN.1 M i j (by simpa using hi) (by simpa using H) v;simp only[Wx,Array.getElem_toList] at Y ⊢;have h8:=nF (f[i]).1.2 (f[j]).1.2;by_cases e:bC (f[i]).1.2 (f[j]).1.2=0
  ·exact absurd (pZ e) Y
  ·omega
 refine⟨rfl,A,_,AK sC W B o n f G u,λi hi=>?_⟩;have z:i<f.size:=by omega
 have P:o+i<R.size:=by
  obtain⟨l,-,p,-⟩:=N i (by omega);exact(Lz.1 p).1
 refine⟨(f[i]!).1.2,(f[i]!).1.1,?_,?_,(f[i]!).2.keptT A u (by decide)⟩
 ·rw[<- hS,NO,Qu,Ml z,getElem!_pos f i z];rfl
 ·unfold putCells;rw[Array.getElem?_mapIdx,Ml P,Ng,if_pos ⟨Ww _ _,by omega⟩,Nat.add_sub_cancel_left];rfl
end
section
open Go Go.RowKit

end
section
open Go.RowKit
def lM(c d:Ly)(w:Lt)(v:LA)(a:Lx Par):Prop :=
 ∃base b,v=.slice base a.length b/\(a.length:LJ)<=1000000 /\
  (a≠[]->∃B o,base=Lq ⟨B,o,Lw⟩/\c<=B/\B<d/\B<w.heap.size/\∀i,i<a.length->∃p,a[i]?=Lq p/\w.cell? ⟨B,o+i*4,Lw⟩=Lq (.int .i64 p.mn)/\w.cell? ⟨B,o+i*4+1,Lw⟩=Lq (.int .i64 p.mx)/\w.cell? ⟨B,o+i*4+2,Lw⟩=Lq (.int .i64 p.bears)/\w.cell? ⟨B,o+i*4+3,Lw⟩=Lq (.int .i64 p.tall))
def aC.g{b c:Ly}{w:Lt}{v:LA}{a:Lx Par}(h:aC b c w v a):lM b c w v a:=h.cell
def lM.cell{c d:Ly}{w:Lt}{v:LA}{a:Lx Par}(h:lM c d w v a):∃base b,v=.slice base a.length b/\(a.length:LJ)<=1000000 /\(a≠[]->∃B o,base=Lq ⟨B,o,Lw⟩/\c<=B/\B<d/\B<w.heap.size/\∀i,i<a.length->∃p,a[i]?=Lq p/\w.cell? ⟨B,o+i*4,Lw⟩=Lq (.int .i64 p.mn)/\w.cell? ⟨B,o+i*4+1,Lw⟩=Lq (.int .i64 p.mx)/\w.cell? ⟨B,o+i*4+2,Lw⟩=Lq (.int .i64 p.bears)/\w.cell? ⟨B,o+i*4+3,Lw⟩=Lq (.int .i64 p.tall)):=h
def lM.kept{g a:Ly}{w k:Lt}{v:LA}{l:Lx Par}{row:LU Ly}(h:lM g a w v l)(d:w.gb k row)(q:∀R,row=Lq R->R<g\/a<=R:=by simp):lM g a k v l:=by
 obtain⟨b,c,rfl,r,y⟩:=h;refine⟨b,c,rfl,r,λj=>?_⟩;obtain⟨B,o,rfl,x,u,t,s⟩:=y j;have f:Lq B≠row:=λe=>by have:=q B e.symm;omega
 refine⟨B,o,rfl,x,u,LY t d.size,λi a=>?_⟩;have⟨p,F,D,C,A,z⟩:=s i a;exact⟨p,F,d.cell D f,d.cell C f,d.cell A f,d.cell z f⟩
def Kt(d e:Ly)(w:Lt)(v:LA)(c:Lx Par)(a:LJ):Prop:=∃b,v=.agg #[b,a]/\lM d e w b c





end
section
def aC.kept_ty{f g O:Ly}{w d:Lt}{v:LA}{l:Lx Par}(h:aC f g w v l)(q:w.gb d (Lq O)){b:LM LA}{t:LZ}{s:Ly × Ly}(i:w.heap[O]?=Lq (.cells b t s))(k:t≠28):aC f g d v l:=by
 obtain⟨base,c,rfl,p,n⟩:=h;refine⟨base,c,rfl,p,λa=>?_⟩;have⟨B,o,A,r,z,y,x,j,u⟩:=n a;refine⟨B,o,A,r,z,y,x,blk q (λe=>?_) j,u⟩;cases e;rw[j] at i;cases i;exact k rfl
end
section
open Go.RowKit


end
section
open Go.RowKit
section
variable{P:LV}
def AS{d:LM NB}{o:NB}{a:ON}{w:Lt}{K:ON->Lt->Prop}{Q:SS->ON->Lt->Prop}{E:Prop}(g:MA o (Od d a.tmps)=LG)(s x:MS)(t:LZ)(k:o.op=.call { callee:=.builtin .append,args:=#[s,x],argTypes:=#[t,t] })(base:Ly)(e:LZ)(i:Qg)(z:LA)(size SK:Ly)(ht:P.underlying t=Lq (.slice e))(hi:P.info? e=Lq i)(hz:i.zero=Lq z)(hsize:i.size=size)(hby:i.bytes=SK)(hzs:z.cells.size=size)(hsz:0<size)(v:LA)(n:Ly)(xs:Lx LA)(hs:a.eval s=v)(hown:w.ownsRow base e size v n xs)(ad:MN)(m c:Ly)(news:Lx LA)(hx:a.eval x=.slice (Lq ad) m c)(hl:news.length=m*size)(hnews:∀j u,news[j]?=Lq u->w.cell? (ad.add j)=Lq u)(h1:∀u∈news,u.oneCell'=LG)(h63:n+m<=Qe)(hbytes:(n+m)*SK<=140737488355328)(hbase:base<=w.heap.size)(h:∀f b,b.ownsRow base e size f (n+m) (xs++news)->w.gb b v.ownBlock->K (a.put o.dst f) b) :if MA o (Od d a.tmps)=LG then Oper.wp P o a w K Q else E:=by
 rw[if_pos g];exact wp_append_own w s x t k base e i z size SK ht hi hz hsize hby hzs hsz v n xs hs hown ad m c news hx hl hnews h1 h63 hbytes hbase λf b p l _=>h f b p l
end
def tn(a:Lx Par):(eQ a).length=a.length*4:=by
 induction a with
 | nil=>rfl
 | cons p t b=>unfold eQ at b ⊢;rw[Oo,Na,b];simp[kD];omega
def Br(c:Lx Par):∀u∈eQ c,u.oneCell'=LG:=by
 intro u a;unfold eQ at a;obtain⟨p,-,b⟩:=Ox.1 a;simp[kD] at b;rcases b with rfl | rfl | rfl | rfl<;>rfl
def run_append_nil{P:LV}{t a e:LZ}{i:Qg}{g c:Ly}{w:Lt}(b:P.underlying t=Lq (.slice e))(d:P.info? e=Lq i):(PI #[t,t] a #[.slice (Lq g) 0 0,.slice Lw 0 c]).run P w=.ok (.slice (Lq g) 0 0) w:=by
 simp[PI,SN b,SY,PT,d,Vq,TH,SZ]
def JR{q t:Ly}{w:Lt}{f:MN}{g:Ly}{c:Lx Par}(h:lM q t w (.slice (Lq f) c.length g) c):∀j u,(eQ c)[j]?=Lq u->w.cell? (f.add j)=Lq u:=λj u d=>by
 have s:j<c.length*4:=by have:=(Md.1 d).1;rwa [tn] at this
 obtain⟨_,_,e,-,h⟩:=h;cases e;obtain⟨B,o,e,-,-,-,v⟩:=h (by rintro rfl;simp at s);cases e;have⟨p,r,n,l,k,i⟩:=v (j / 4) (by omega);have a:=tt c (j / 4) p r (j % 4) (Nat.mod_lt _ (by omega));rw[show j / 4*4+j % 4=j by omega,d] at a;have b:j % 4=0\/j % 4=1\/j % 4=2\/j % 4=3:=by omega
 rcases b with b | b | b | b;all_goals
  rw[b] at a;simp[kD] at a;subst a;refine gX ?_
 ·rw[show o+j=o+j / 4*4 by omega];exact n
 ·rw[show o+j=o+j / 4*4+1 by omega];exact l
 ·rw[show o+j=o+j / 4*4+2 by omega];exact k
 ·rw[show o+j=o+j / 4*4+3 by omega];exact i
def yt{f:LM NB}{o:NB}{a:ON}{w:Lt}{K:ON->Lt->Prop}{Q:SS->ON->Lt->Prop}{E:Prop}(s x:MS){C G L g n:Ly}{p:LU MN}{b:Lx Par}(A:lM C G w (.slice p b.length n) b)(z:w.heap[g]?=Lq (.cells #[] 28 (0,0)))(I:L<=g)(R:b.length<=1000)(h:∀r q l,l.ownsRow L 28 4 (.slice r b.length q) b.length (eQ b)->w.gb l (Lq g)->K (a.put o.dst (.slice r b.length q)) l)(j:MA o (Od f a.tmps)=LG:=by kernel_rfl)(ho:o.op=.call { callee:=.builtin .append,args:=#[s,x],argTypes:=#[22,22] }:=by rfl)(hs:a.eval s=.slice (Lq g) 0 0:=by rfl)(hx:a.eval x=.slice p b.length n:=by rfl) :if MA o (Od f a.tmps)=LG then Oper.wp Ya o a w K Q else E:=by
 have⟨D,i,v,u,t⟩:=Pd Tp.info28p;have d:w.ownsRow L 28 4 (.slice (Lq g) 0 0) 0 []:=⟨rfl,.inr ⟨g,0,#[],rfl,I,z,LC _,by decide,rfl,rfl⟩⟩;have H:=(Lz.1 z).1;rcases p with _ | O
 ·obtain rfl:b=[]:=MX λF=>by obtain⟨_,_,e,-,k⟩:=A;cases e;have⟨_,_,e,_⟩:=k F;cases e
  rw[if_pos j];unfold Oper.wp OZ;simp only[ho,resolve,invoke,builtin,NF,RO,NC,RQ,PS,Ra,hs,hx,Mj,run_append_nil Tp.und22 i];exact h _ _ _ d (Mf _ _)
 ·refine AS j s x 22 ho L 28 D _ 4 32 Tp.und22 i v u t rfl (by decide) _ 0 [] hs d O b.length n (eQ b) hx (tn b) (JR A) (Br b) (by unfold Qe;omega) (by omega) (by omega) λB l k M=>?_;obtain⟨r,q,rfl⟩:∃a c,B=.slice a b.length c:=by
   rcases k.2 with⟨rfl,S⟩ | ⟨g,y,N,rfl,_⟩
   ·exact⟨Lw,0,by rw[show b.length=0 by omega]⟩
   ·exact⟨_,y,by rw[Mn]⟩
  rw[Mn,Mu] at k;exact h _ _ _ k M
def jG(V O:Ly)(N:LA)(c:Lx Par)(a:LJ)(w:Lt)(hY:Kt V O w N c a)(Z:O<=w.heap.size)(Y:c.length<=1000) :MH Ya 27 #[N] w λe y=>∃G,e=.returned (.agg #[G,a])/\w.gb y Lw/\aC w.heap.size y.heap.size y G c/\y.ownsRow w.heap.size 28 4 G c.length (eQ c):=by
 obtain⟨pv,rfl,L⟩:=hY;obtain⟨F,D,rfl,I,-⟩:=L.cell;have⟨A,n,Q,p,s,k,u,q⟩:=de w (.cells #[.slice F c.length D,a] 24) (.cells #[.slice Lw 0 0,.int .i64 0] 24);have⟨f,HW,C,U,S,HP⟩:=sr u p Q s q L;have l:=Lu (show ∀W,n.gb W Lw->W.cell? A=Lq (.slice F c.length D)/\W.cell? ⟨A,1,Lw⟩=Lq (.int .i64 a) from λW h=>⟨aa (bk h k) rfl,aa (bk h k) rfl⟩);clear L p Q s k u q;go_enter Tp.x27,Tryz.ntmps27;go_upto_region 1 with(fail);rw[<- C,<- HW];refine bn 7 (λW=>W.cell? A=Lq (.slice F c.length D)/\W.cell? ⟨A,1,Lw⟩=Lq (.int .i64 a)) (by kernel_rfl) (by kernel_rfl) (l _ (ak n Lw)) (λhHeld=>?_);simp only[LX,Mj,Ms,NA,Mn,MF,MG,MZ,Mu,Mk];refine tk 1 (h:=tk 2 (h:=tk 4 (h:=tk 5 (h:=?_))));try go_frame
 refine rdc 0 λK r=>?_;go_simp;have M:=Lu ((ak n Lw).t (Lr n.drew (.cells #[] 28) Lw));refine r.out _ _ (l _ M) (λhHeld=>?_);clear r K;try go_frame
 refine rdc 3 λK r=>?_;refine yt (.tmp 3) (.tmp 5) (HP.kept (U.t M)) (LS n.drew _) (show A+2<=n.heap.size by have:=S.out;omega) Y λB z x i d=>?_;have T:=Lu i;have b:=Lu (UJ (row:=Lw) M d (λj e=>.inl (by cases e;exact LC _)));clear i d;refine r.out _ _ (l _ b) (λhHeld=>?_);clear r K;try go_frame
 refine tk 6 (h:=?_);try go_frame
 refine⟨by kernel_rfl,?_⟩;simp only[MQ,Nu];have z0:=aa (bk b f) (o:=0) rfl;have z1:=aa (bk b f) (o:=1) rfl;have z2:=aB (o:=0) (bk b f);have z3:=aB (o:=1) (bk b f);clear hHeld;go_wp2;have X:=ar (o:=1) (v:=.int .i64 a) (ar (o:=0) (v:=.slice B c.length z) (bk b f));have g:=(an x (A+1) 0 (.slice B c.length z)).t (an _ (A+1) 1 (.int .i64 a));have a7:A+1<x.heap.size:=by have:=b.out.size;have:=S.out;omega
 have H:aC (A+2) x.heap.size x (.slice B c.length z) c:=aC.own T rfl I;exact Ot (v:=.agg #[.slice B c.length z,a]) (by simp[Om,Tryz.results27,go_sem,Mz,X]) rfl ⟨_,rfl,(U.t b).andThen (row':=Lq (A+1)) g (by rintro j e;cases e;exact .inl (by have:=C.out;omega)),(H.kept g (by rintro R e;cases e;exact .inl (by omega))).mono (by have:=C.out;omega) g.size,World.ownsRow.mono (CV g T (QM _)) (by have:=C.out;omega)⟩
end
section
open Go.RowKit



def FB(base:Ly)(w:Lt)(v:LA)(L:Lx (Lx LJ)):Prop :=
 ∃a:Lx LA,w.ownsRow base 29 1 v L.length a/\∀(j:Ly) x l,a[j]?=Lq x->L[j]?=Lq l->ai 0 w.heap.size w x l
def KA(b:Ly)(w:Lt)(v:LA)(L:Lx (Lx LJ)):Prop :=
 ∃a c,v=.slice a L.length c/\(0<L.length->∃g,a=Lq ⟨g,0,Lw⟩/\g<b/\(∃d f,w.heap[g]?=Lq (.cells d 29 f))/\∀(j:Ly) l,L[j]?=Lq l->∃x,w.cell? ⟨g,j,Lw⟩=Lq x/\ai 0 b w x l)


def JP(y:LJ)(L:Lx (Lx LJ)):Lx (Lx LJ):=L.map λl=>y::l
def dI:Lx LJ->Ly->Lx (Lx LJ)
 | _,0=>[[]]
 | l,k+1=>(Mr l.length).flatMap λi=>JP (l[i]?.getD 0) (dI (l.drop (i+1)) k)
def IT:Ly->Lx LJ->Lx (Lx LJ)
 | 0,_=>[[]]
 | f+1,l=>(Mr l.length).flatMap λi=>JP (l[i]?.getD 0) (IT f (l.filter λz=>z != l[i]?.getD 0))
def addr_add(B o k:Ly):(⟨B,o,Lw⟩:MN).add k=⟨B,o+k,Lw⟩:=by
 unfold Addr.add;split
 ·rename_i h;rw[h];rfl
 ·rfl
def KX(y:LJ)(l:Lx LJ):Lx LJ:=l.takeWhile (λx=>decide (x<y))++y::l.dropWhile (λx=>decide (x<y))
def Kq(l:Lx LJ):Lx LJ:=l.foldl (λo y=>KX y o) []
def gP(b:Lx Par)(a:LJ)(l:Lx LJ):Lx (Lx LJ):=(IT l.length (Kq l)).filter (aY b a)



def jK(b:Lx Par)(a:LJ):LJ:=if bX b a=0 then((gP b a (aJ b.length)).length:Ly) else 0
def eP(c:Lx Par)(a:LJ)(m:Ly)(b q:Lx LJ):Lx LJ :=
 match gP c a q with
 | []=>b
 | p::_=>if b.length<m\/bC p b<0 then p else b
def lvR(c:Lx Par)(a:LJ)(b:Lx LJ)(m:Ly):Lx LJ:=(dI (aJ c.length) m).foldl (eP c a m) b
def dG(b:Lx Par)(a:LJ)(k:Ly):Lx LJ:=(QS 1 k).foldl (lvR b a) []
def mX(b:Lx Par)(a:LJ):Lx LJ:=if bX b a=0 then dG b a b.length else[]
def rO(b:Lx Par)(a:LJ)(k:Ly):dG b a (k+1)=lvR b a (dG b a k) (k+1):=by
 unfold dG;rw[UZ,Rs,Nat.add_comm 1 k];rfl
def mg:∀k (l q:Lx LJ),q∈dI l k->q.Sublist l
 | 0,_,q,b=>by simp[dI] at b;subst b;exact Wy _
 | k+1,l,q,b=>by
  have⟨i,c,f⟩:=Ox.1 b;obtain⟨m,hm,rfl⟩:=Nt.1 f;have a:=Nj.1 c;have e:=mg k _ m hm;rw[LO a,LQ];have d:=Oc a;exact((e.cons₂ l[i]).t (by rw[<- d];exact List.Sublist.refl _)).t (List.drop_sublist i l)
end
section
open Go.RowKit Go.Shelf
attribute [local go_sem] Oper.semAt_some
structure sH(w3:Lt)(Bl N:Ly)(W:Lt):Prop where
 os:W.os=w3.os
 tape:W.tape=w3.tape
 output:W.output=w3.output
 size:w3.heap.size<=W.heap.size
 keep:∀k,k<w3.heap.size->k≠Bl->k≠N->W.heap[k]?=w3.heap[k]?
def sH.stp{b:Lt}{d N:Ly}{G:Ly->Prop}{A C:Lt}(h:sH b d N A)(a:Stp b.heap.size d G A C):sH b d N C :=
 ⟨a.os.trans h.os,a.tape.trans h.tape,a.output.trans h.output,LN h.size a.size,λk c e f=>(a.keep k (LY c h.size) (.inl ⟨c,e⟩)).t (h.keep k c e f)⟩
def sH.grown{b:Lt}{d N:Ly}{A C:Lt}(h:sH b d N A)(a:A.gb C Lw):sH b d N C :=
 ⟨a.os.trans h.os,a.tape.trans h.tape,a.output.trans h.output,LN h.size a.size,λk c e f=>(a.block k (LY c h.size) (by simp)).t (h.keep k c e f)⟩
def sH.set{a:Lt}{c N:Ly}{A:Lt}(h:sH a c N A)(o:Ly)(v:LA):sH a c N (A.setCell ⟨N,o,Lw⟩ v) :=
 ⟨h.os,h.tape,h.output,by simpa[NS] using h.size,λk f d b=>(Nd _ _ _ k (λe=>b e)).t (h.keep k f d b)⟩
def Gs:∀n,n<=5->(bV (aJ n)).length<=120
 | 0,_=>by decide
 | 1,_=>by decide
 | 2,_=>by decide
 | 3,_=>by decide
 | 4,_=>of_decide_eq_true (by kernel_rfl)
 | 5,_=>of_decide_eq_true (by kernel_rfl)
 | n+6,h=>by omega
def Ci(pv:LA)(b:Lx Par)(a:LJ)(w:Lt)(hP:aC 0 w.heap.size w pv b)(T:YOk b a) :MH Ya 59 #[.agg #[pv,a]] w λe w'=>e=.returned (.tuple #[((bV (aJ b.length)).countP (aY b a):Ly),.int .i64 0])/\w.gb w' Lw:=by
 obtain⟨r,q,rfl,n3,-⟩:=hP.cell;have⟨HP,M⟩:=aS hP T;have hn:b.length<=1000:=by have:=T.len;omega
 clear hP T;refine(NM (n:=6)).1 ?_;refine RV Tp.x59 rfl trivial ?_ rfl;simp only[XV,Mt,LX,Mj,Ms,NA,MF,MG,MZ,OY,Mu,Mk]
 gi_wp2_with (first
  | (refine⟨trivial,?_⟩;gi_at_call 81;refine(NM.2 (fA 0 w.heap.size _ _ b a [] _ (HP.kept (Lr _ _ Lw)) (ai.nil _ _ _) (by simp) M (POk.nil b M.l1))).mono ?_;rintro e w2 ⟨rfl,d5⟩;have X:=Lu ((Lr w (.cells #[.slice r b.length q,a] 24) Lw).t d5);clear d5)
  | (refine⟨trivial,?_⟩;gi_at_call 100;refine(NM.2 (ea r b.length q a _ hn)).mono ?_;rintro e Z ⟨v5,rfl,c9,V⟩;obtain⟨b5,k5,rfl,-,-⟩:=V.cell;have e6:=Lu c9;have d9:=Lu V;clear c9 V)
  | (refine⟨trivial,?_⟩;gi_at_call 117;refine(NM.2 (mh _ _ _ _)).mono ?_;rintro e w6 ⟨rfl,rfl⟩))
 obtain⟨Y,I⟩:∃Y,Y=w2.heap.size:=⟨_,rfl⟩;obtain⟨N,L⟩:∃N,N=Z.heap.size:=⟨_,rfl⟩;obtain⟨u,F⟩:∃u,u=Z.alloc (.cells #[.slice b5 (aJ b.length).length k5] 29):=⟨_,rfl⟩;rw[<- I,<- L,<- F];have d:=e6.out;have f:Z.gb u Lw:=by rw[F];exact Lr _ _ Lw
 have R:(w2.alloc (.cells #[.slice r b.length q,a] 91)).heap.size=Y+1:=by rw[Mc,I]
 have b9:u.heap[Y]?=Lq (.cells #[.slice r b.length q,a] 91 (0,0)):=by
  rw[I];exact bk (d.t f) (aD (LS w2 _))
 have c8:u.heap[Y+1]?=Lq (.cells #[.int .i64 0] 3 (0,0)):=by
  have:=LS (w2.alloc (.cells #[.slice r b.length q,a] 91)) (.cells #[.int .i64 0] 3);rw[R] at this;exact bk (d.t f) this
 have l6:u.heap[N]?=Lq (.cells #[.slice b5 (aJ b.length).length k5] 29 (0,0)):=by rw[F,L];exact LS Z _
 have n8:Y+1<N:=by
  have:=d.size;rw[Mc,R] at this;omega
 have g9:u.heap.size=N+1:=by rw[F,Mc,L]
 have U:w.gb u Lw:=X.out.t (((Lr _ _ Lw).t (Lr _ _ Lw)).t (d.t f));have l5:ai 0 u.heap.size u (.slice b5 (aJ b.length).length k5) (aJ b.length):=(d9.kept f).mono (Mw _) f.size;have b8:w.heap.size<=Y:=by rw[I];exact X.size
 have h9:b.length<=5:=M.out.len;have l8:=Lu (HP.kept U);have⟨m3,l7,q5,m4,d7⟩:=oC c8 b9 g9 U b8;clear I L F d f R b9 c8 U X e6 d9 b8;refine eU rfl (by omega) (gf:=149) (lb:=#[.pointer (Lq N)]) rfl trivial (enters_of Tp.x149 (by kernel_rfl) rfl)
  (jy 5 N b5 k5 (aJ b.length) (aJ b.length) (iS (by rw[bw];omega) (bE _)) (λx hx=>by have:=dM hx;omega) (cD (bE _)) (by rw[bw];omega) u l6 l5) (RH _ _) (λ_=>rfl) (G0:=mW) (λh=>h) (by omega) (tZ)
  (λO G W=>G=mW/\sH u N (Y+1) W/\W.heap[Y+1]?=Lq (.cells #[.int .i64 ((O.map Po).countP (aY b a):Ly)] 3 (0,0)))
  (λ_ _ _ _=>PC)
  (λs G A h k H=>by rw[h.1] at H;exact H.elim)
  (λs G A C h b6=>⟨h.1,h.2.1.stp b6,(b6.keep _ (aH h.2.2) (.inl ⟨by omega,by omega⟩)).t h.2.2⟩)
  (λ_ _ _ _ _ h _=>h)
  ⟨rfl,⟨rfl,rfl,rfl,LC _,λ_ _ _ _=>rfl⟩,m3⟩
  (λx=>{ tmps:=#[.agg #[.slice r b.length q,a],.pointer (Lq w.heap.size),.int .i64 0,.int .i64 0,.pointer (Lq Y),.int .i64 0,.pointer (Lq (Y+1:Ly)),x.2,.tuple #[.agg #[.slice r b.length q,a],.int .i64 0],.agg #[.slice r b.length q,a],.tuple #[.agg #[.slice r b.length q,a],.int .i64 0],.agg #[.slice r b.length q,a],.int .i64 0,.int .i64 0,.bool LH,LI,.agg #[.slice r b.length q,a],.slice b5 (aJ b.length).length k5,.func (.func 149) #[] #[.pointer (Lq N)],x.2,LI,LI,LI,LI,LI,LI],defers:=[] }) ?assign ?body ?done ?stop
 case assign=>
  intro l x W K hK
  gi_wp2
  exact hK
 case body=>
  rintro l O G x W ⟨rfl,g,j⟩ hx ⟨t,ht⟩;have P:=(g.keep Y (by omega) (by omega) (by omega)).t l7;have c3:aC 0 W.heap.size W (.slice r b.length q) b:=by
   have⟨b',c',e,hl,hr⟩:=l8.out;refine⟨b',c',e,hl,λh8=>?_⟩;have⟨B,o,cs,fr,e1,e2,e3,e4,e5⟩:=hr h8;have:=d7.out;have:=g.size;exact⟨B,o,cs,fr,e1,e2,by omega,(g.keep B (by omega) (by omega) (by omega)).t e4,e5⟩
  obtain⟨Q,v⟩:=hx;have S:PIn b x.1:=⟨λy hy=>dM (v.2.2.1 y hy),v.2.1,by have:=v.1;rw[bw] at this;omega⟩;have k7:(O.map Po).countP (aY b a)<=120:=by
   have h1:=Gs b.length h9;rw[show bV (aJ b.length)=_ from ht,Na,NJ,Na] at h1;have h2:=List.countP_le_length (p:=aY b a) (l:=O.map Po);omega
  obtain⟨x1,x2⟩:=x;obtain⟨xb,xc,b0,-,-⟩:=Q.cell;dsimp only at b0 S v;subst b0;have c1:W.cell? Y=Lq (.slice r b.length q):=aa P rfl;have c2:W.cell? ⟨Y,1,Lw⟩=Lq (.int .i64 a):=aa P rfl;obtain⟨z,hz⟩:∃z,z=aY b a x1:=⟨_,rfl⟩;have b7:MH Ya 114 #[.agg #[.slice r b.length q,a],.slice xb x1.length xc] W λe w'=>e=.returned (.bool z)/\W.gb w' Lw:=by
   rw[hz];exact nz 0 W.heap.size _ _ b a x1 W ⟨_,rfl,c3⟩ Q (LC _) M S
  have HC:=Lu (show((O++[(x1,MU xb x1.length xc)]).map Po).countP (aY b a)=(O.map Po).countP (aY b a)+if z then 1 else 0 by rw[NJ,List.countP_append,hz];simp[List.countP_cons]);generalize (O.map Po).countP (aY b a)=c at k7 j HC;have⟨e7,i,d8⟩:=bL b7 g j;clear b7 hz Q v g j P c3 S ht;cases z with
  | false=>
   gi_wp2_with (refine⟨trivial,?_⟩;gi_at_call 114;refine(CallsIn.inRound l (NM.2 e7)).mono ?_;rintro e Z ⟨rfl,d⟩)
   refine⟨mW,⟨d.tape,d.size,λk H _ _=>d.block k H (by simp),λk H=>H.elim⟩,rfl,i.grown d,?_⟩;rw[HC];exact bk d d8
  | true=>
   have n6:IntKind.i64.wrap ((c:LJ)+1)=(c:LJ)+1:=MI _ (by omega)
   gi_wp2_with (refine⟨trivial,?_⟩;gi_at_call 114;refine(CallsIn.inRound l (NM.2 e7)).mono ?_;rintro e Z ⟨rfl,d⟩;have n5:=bk d d8;have k5:=aa (o:=0) n5 rfl;have z5:=aB (o:=0) n5;have l9:=Lu n5;clear n5)
   refine⟨mW,⟨d.tape,by simpa[NS] using d.size,λk H hn _=>?_,λk H=>H.elim⟩,rfl,(i.grown d).set 0 _,?_⟩
   ·exact(Nd _ _ _ k (λe=>by have e':k=Y+1:=e;omega)).t (d.block k H (by simp))
   ·rw[HC,ar l9];rfl
 case done=>
  rintro D ys G W hD a8 ⟨rfl,g,j⟩ hK p4;obtain⟨c,hc⟩:∃c,c=(bV (aJ b.length)).countP (aY b a):=⟨_,rfl⟩;rw[a8,show bm (aJ b.length) (aJ b.length).length []=bV (aJ b.length) from rfl,<- hc] at j;have k6:=aa (o:=0) j rfl;have⟨i,HC⟩:=aS g hc;clear g j a8 hc
  gi_wp2
  refine⟨by simp,.inl ⟨_,_,rfl,RS hK,?_⟩⟩;refine⟨.tuple #[(c:Ly),.int .i64 0],by simp[Om,Tryz.results59,go_sem],by rw[HC],?_⟩;have k0:=i.out.size;have p3:=d7.out;exact oF m4 ⟨i.os,i.tape,i.output,k0,λk H=>i.keep k (by omega) (by omega) (by omega)⟩ (Pi W D (.deferred Lw)) (by omega)
 case stop=>
  rintro D c O G W hD _ h;exact h.elim
end
section
open Go.RowKit
def IS(n:Ly):MC:=(Mr (n+1)).all λk=>(dI (aJ n) k).all λq=>(IT q.length (Kq q) == bV q) && (q.length == k) && (bV q).all λp=>p.length == k
def Bq:∀n,n<=5->IS n=LG
 | 0,_=>by kernel_rfl
 | 1,_=>by kernel_rfl
 | 2,_=>by kernel_rfl
 | 3,_=>by kernel_rfl
 | 4,_=>by kernel_rfl
 | 5,_=>by kernel_rfl
 | n+6,h=>by omega
def nO:∀n,n<=5->cy (aJ n) 0=[]::(QS 1 n).flatMap (dI (aJ n))
 | 0,_=>by kernel_rfl
 | 1,_=>by kernel_rfl
 | 2,_=>by kernel_rfl
 | 3,_=>by kernel_rfl
 | 4,_=>by kernel_rfl
 | 5,_=>by kernel_rfl
 | n+6,h=>by omega
def mT{n k:Ly}(d:n<=5)(e:k<=n){q:Lx LJ}(c:q∈dI (aJ n) k):(∀b a,gP b a q=(bV q).filter (aY b a))/\q.length=k/\∀p∈bV q,p.length=k:=by
 have h:=MD.1 (MD.1 (Bq n d) k (Nj.2 (by omega))) q c;simp only[Mg,beq_iff_eq,MD] at h;exact⟨λb a=>by unfold gP;rw[h.1.1],h.1.2,h.2⟩
def BV:∀n,n<=5->aJ n∈dI (aJ n) n
 | 0,_=>by decide
 | 1,_=>by decide
 | 2,_=>by decide
 | 3,_=>by decide
 | 4,_=>by decide
 | 5,_=>by decide
 | n+6,h=>by omega
def rG(a:Lx Par)(b:LJ)(c:a.length<=5):(bV (aJ a.length)).countP (aY a b)=(gP a b (aJ a.length)).length:=by
 rw[(mT c (LC _) (BV _ c)).1,Tw]
def Ic(c:Lx Par)(a:LJ)(m:Ly):∀(L:Lx (Lx LJ)) (b:Lx LJ),b.length<=m->(∀q∈L,(∀c a,gP c a q=(bV q).filter (aY c a))/\q.length=m/\∀p∈bV q,p.length=m) ->L.foldl (jR c a) (LG,b)=(LG,L.foldl (eP c a m) b)/\(L.foldl (eP c a m) b).length<=m
 | [],b,i,_=>⟨rfl,i⟩
 | q::L,b,i,h=>by
  have⟨o,r,n⟩:=h q (by simp);have e:jR c a (LG,b) q=(LG,eP c a m b q)/\(eP c a m b q).length<=m:=by
   unfold jR eP;rw[o c a];have f:((bV q).filter (aY c a)).head?=(bV q).find? (aY c a):=List.head?_filter;cases hO:(bV q).filter (aY c a) with
   | nil=>
    rw[hO] at f;rw[<- f];exact⟨rfl,i⟩
   | cons p T=>
    rw[hO] at f;rw[<- f];have g:=n p (Oa.1 (show p∈(bV q).filter (aY c a) by rw[hO];simp)).1;simp only[List.head?_cons,true_and];unfold lI;by_cases k:b.length<m
    ·rw[if_pos (Or.inl k)];have:decide (b.length<p.length)=LG:=decide_eq_true (by omega);simp[g,k]
    ·have d:b.length=m:=by omega
     by_cases j:bC p b<0
     ·simp[g,d,j]
     ·simp[g,d,j]
  rw[OI,OI,e.1];exact Ic c a m L _ e.2 λx l=>h x (by simp[l])
def rN(b:Lx Par)(a:LJ)(c:b.length<=5):∀k,k<=b.length->((QS 1 k).flatMap (dI (aJ b.length))).foldl (jR b a) (LG,[])=(LG,dG b a k)/\(dG b a k).length<=k
 | 0,_=>⟨rfl,by simp[dG]⟩
 | k+1,e=>by
  have⟨g,h⟩:=rN b a c k (by omega);have f:=Ic b a (k+1) (dI (aJ b.length) (k+1)) (dG b a k) (by omega) λq d=>mT c e d;rw[UZ,TA,Rs,g,rO,List.flatMap_singleton,Nat.add_comm 1 k];exact f
def BA(b:Lx Par)(a:LJ)(g:1<=a)(c:b.length<=5):(dN b a (cy (aJ b.length) 0)).2=dG b a b.length:=by
 have e:bV []=[[]]:=rfl;have d:aY b a []=LG:=by
  unfold aY aV;simp only[Ra,List.foldl_nil,Mg,decide_eq_true_eq];exact⟨by omega,by rfl⟩
 have f:jR b a (LH,[]) []=(LG,[]):=by
  unfold jR;rw[e,List.find?_cons,d];simp
 unfold dN;rw[nO _ c,OI,f,(rN b a c _ (LC _)).1]
def tS(o:LA)(g:Lx Par)(f:LJ)(w:Lt)(l:aC 0 w.heap.size w o g) :MH Ya 59 #[.agg #[o,f]] w λe x=>e=.returned (.tuple #[(jK g f),(bX g f)])/\w.gb x Lw:=by
 by_cases i:bX g f=0
 ·have r:=tY i;rw[i,show jK g f=((gP g f (aJ g.length)).length:Ly) from if_pos i,<- rG g f r.len];exact Ci o g f w l r
 ·obtain⟨v,u,rfl,y,-⟩:=l.cell;have h:=Lr w (.cells #[.slice v g.length u,f] 24) Lw;have j:=qI 0 w.heap.size _ _ g f [] _ (l.kept h) (ai.nil _ _ _) h.size (by simp);rw[show Bt g f []=bX g f from if_neg i,show jK g f=0 from if_neg i] at *
  have⟨s,z⟩:=aS j h;have p:(bX g f == 0)=LH:=by rw[beq_eq_false_iff_ne];exact i
  generalize bX g f=c at s p ⊢;clear l h j i;go_enter Tp.x59,XV;go_wp2_with (go_at_call 81;refine s.mono ?_;rintro e A ⟨a,n,b,d,rfl,k,-⟩;have q:=Lu (z.t k);clear k);go_ret2;exact⟨rfl,q.t (Lr _ _ Lw)⟩
def wS(p:LA)(g:Lx Par)(f:LJ)(w:Lt)(l:aC 0 w.heap.size w p g) :MH Ya 44 #[.agg #[p,f]] w λe o=>∃v,e=.returned (.tuple #[v,(bX g f)])/\w.gb o Lw/\ai 0 o.heap.size o v (mX g f):=by
 by_cases i:bX g f=0
 ·have q:=tY i;rw[i,show mX g f=dG g f g.length from if_pos i,<- BA g f q.l1 q.len];exact wT p g f w l q
 ·obtain⟨y,x,rfl,z,-⟩:=l.cell;have h:=Lr w (.cells #[.slice y g.length x,f] 24) Lw;have j:=qI 0 w.heap.size _ _ g f [] _ (l.kept h) (ai.nil _ _ _) h.size (by simp);rw[show Bt g f []=bX g f from if_neg i,show mX g f=[] from if_neg i] at *
  have⟨u,A⟩:=aS j h;have r:(bX g f == 0)=LH:=by rw[beq_eq_false_iff_ne];exact i
  generalize bX g f=c at u r ⊢;clear l h j i;go_enter Tp.x44,Tryz.ntmps44;go_wp2_with (go_at_call 81;refine u.mono ?_;rintro e B ⟨a,n,b,d,rfl,k,-⟩;have s:=Lu (A.t k);clear k);go_ret2;exact⟨_,rfl,s.t (Lr _ _ Lw),ai.nil _ _ _⟩
end
section
def lvl(n:Ly):Ly->Lx (Lx LJ)->Lx (Lx LJ)->Lx (Lx (Lx LJ))
 | 0,_,a=>[a]
 | f+1,K,a=>if a=[] then[a] else a::lvl n f (zx n K a).1 (zx n K a).2
structure Goes2(n:Ly)(P:Lx LJ->Prop)(g:Lx LJ->Lx LJ):Prop where
 inj:∀a b,P a->P b->g a=g b->a=b
 com:∀a i,P a->i+1<n->swp (g a) i=g (swp a i)
 cl:∀a i,P a->i+1<n->P (swp a i)
def Ij(a:Lx Par)(c:Lx (Lx LJ)):MC × Lx LJ:=c.foldl (λb s=>if aL a (pre Par.mx a a.length) s=LG then(LG,if b.1=LG/\rB s b.2=LH then b.2 else s) else b) (LH,[])
def At(a:Lx Par):Lx (Lx (Lx LJ))->LJ->LU (LJ × Lx LJ)
 | [],_=>Lw
 | L::t,b=>if(Ij a L).1=LG then Lq (b,(Ij a L).2) else At a t (b+1)
structure OrdOf(l s:Lx LJ):Prop where
 pm:s.Perm l
def wh:∀(m:Ly) (A:Lx LJ) (x:LJ) (R:Lx LJ),A.length=m->A.Pairwise (·<·)->x∉A->∃S,iT m (A++x::R)=S++R/\S.Perm (x::A)/\S.Pairwise (·<·)
 | 0,A,x,R,h,_,_=>by
  obtain rfl:=MT h;exact⟨[x],rfl,.refl _,by simp⟩
 | m+1,A,x,R,h,p,k=>by
  obtain⟨c,y,rfl⟩:∃c y,A=c++[y]:=⟨A.dropLast,A.getLast (by intro e;rw[e] at h;cases h),(List.dropLast_concat_getLast _).symm⟩;have i:c.length=m:=by simpa using h
  rw[Oj] at p;obtain⟨o,-,g⟩:=p;simp at g k;have w:((c++[y])++x::R)[m+1]?=Lq x:=by rw[Nz (by simp;omega)];simp[i]
  have v:((c++[y])++x::R)[m]?=Lq y:=by rw[Mv (by simp;omega),Nz (by omega)];simp[i]
  unfold iT;rw[w,v];simp only[LQ];by_cases d:x<y
  ·rw[if_pos d];have u:(((c++[y])++x::R).set (m+1) y).set m x=c++x::(y::R):=by
    subst i;simp
   have⟨S,s,q,r⟩:=wh m c x (y::R) i o k.1;refine⟨S++[y],by rw[u,s];simp,?_,?_⟩
   ·exact(q.append_right [y])
   ·refine Oj.2 ⟨r,by simp,λa n b l=>?_⟩;rw[Nl.1 l];rcases MK.1 (q.subset n) with f | f
    ·rw[f];exact d
    ·exact g a f
  ·rw[if_neg d];have j:y<x:=by have:=k.2;omega
   refine⟨c++[y]++[x],by simp,(Rr).t (.refl _),?_⟩;refine Oj.2 ⟨Oj.2 ⟨o,by simp,by simpa using g⟩,by simp,λa n b l=>?_⟩;rw[Nl.1 l];rcases Ob.1 n with f | f
   ·have:=g a f;omega
   ·rw[Nl.1 f];exact j
def xi{l:Lx LJ}(b:l.Nodup):∀k,k<=l.length->∃S,cI k l=S++l.drop k/\S.Perm (l.take k)/\S.Pairwise (·<·)
 | 0,_=>⟨[],rfl,by simp,by simp⟩
 | k+1,q=>by
  have⟨S,o,a,n⟩:=xi b k (by omega);have c:l[k]∉S:=λh=>by
   have:=a.subset h;have⟨i,r,e⟩:=List.mem_take_iff_getElem.1 this;have:=(List.getElem_inj (i:=i) (j:=k) (h₀:=by omega) (h₁:=by omega) b).1 e;omega
  have⟨p,g,f,d⟩:=wh k S l[k] (l.drop (k+1)) (by rw[a.length_eq];simp;omega) n c;refine⟨p,by rw[fJ,o,Oc (by omega)];exact g,?_,d⟩;rw[Np,LO (by omega)];exact f.t ((a.cons _).t (Rr (l₁:=[l[k]])))
def ri{l:Lx LJ}(b:l.Nodup):(cI l.length l).Perm l/\(cI l.length l).Pairwise (·<·):=by
 have⟨S,d,a,c⟩:=xi b l.length (LC _);rw[d,List.drop_length,List.append_nil];rw[NH] at a;exact⟨a,c⟩
def nh(a q:Lx LJ):Lx LJ:=a.filter λx=>!q.contains x
def jE{a q:Lx LJ}(b:a.Nodup)(n:LJ):nh a (q++[n])=(nh a q).erase n:=by
 unfold nh;rw[List.Nodup.erase_eq_filter (Va _ b),VI]
 congr 1
 funext x
 by_cases d:x∈q<;>by_cases c:x=n<;>simp[d,c]
def og{a:Lx LJ}(c:a.Nodup)(x:Lx LJ):∀(m:Ly) (q:Lx LJ),(nh a q).length=m->(x∈bm a m q↔∃r,x=q++r/\r.Perm (nh a q))
 | 0,q,hm=>by
  rw[MT hm];simp[bm]
 | m+1,q,hm=>by
  unfold bm;rw[Ox];constructor
  ·rintro⟨n,g,f⟩;by_cases e:n∈q
   ·rw[if_pos e] at f;cases f
   ·rw[if_neg e] at f;have d:n∈nh a q:=Oa.2 ⟨g,by simpa using e⟩;obtain⟨r,rfl,b⟩:=(og c x m (q++[n]) (by rw[jE c,Se d,hm];rfl)).1 f;refine⟨n::r,by simp,?_⟩;rw[jE c] at b;exact(b.cons n).t (Vb d).symm
  ·rintro⟨r,rfl,b⟩;cases r with
   | nil=>have:=b.length_eq;rw[hm] at this;cases this
   | cons n r=>
    have d:n∈nh a q:=b.subset (by simp);have⟨i,h⟩:=Oa.1 d;have e:n∉q:=by simpa using h
    refine⟨n,i,?_⟩;rw[if_neg e];refine(og c _ m (q++[n]) (by rw[jE c,Se d,hm];rfl)).2 ⟨r,by simp,?_⟩;rw[jE c];exact(b.t (Vb d)).cons_inv
def xe(a:Lx LJ):nh a []=a:=by simp[nh]
def cE{a x:Lx LJ}(b:a.Nodup):x∈bm a a.length []↔x.Perm a:=by
 rw[og b x a.length [] (by rw[xe]),xe];simp
def oe{b x:Lx LJ}:∀(m:Ly) (q:Lx LJ),x∈bm b m q->∃r,x=q++r
 | 0,q,h=>⟨[],by simpa[bm] using h⟩
 | m+1,q,h=>by
  unfold bm at h;obtain⟨n,-,a⟩:=Ox.1 h;split at a
  ·cases a
  ·obtain⟨r,rfl⟩:=oe m _ a;exact⟨n::r,by simp⟩
def EZ(q:Lx LJ){a b:LJ}(r s:Lx LJ)(h:a<b):bC (q++[a]++r) (q++[b]++s)<0:=by
 induction q with
 | nil=>
  have e:iC a b<0:=qa.2 h;simp only[Mu,Mk,bC];rw[if_pos (by omega)];exact e
 | cons c q d=>
  simp only[Mk,bC] at d ⊢;rw[if_neg (by simp[nG.2 rfl])];exact d
def mU{f:Lx LJ}(g:f.Pairwise (·<·)):∀(m:Ly) (q:Lx LJ),(bm f m q).Pairwise λa b=>bC a b<0
 | 0,q=>by simp[bm]
 | m+1,q=>by
  unfold bm;refine UK.2 ⟨λn _=>?_,g.imp λ{a b} e x d y c=>?_⟩
  ·split
   ·exact .nil
   ·exact mU g m _
  ·split at d
   ·cases d
   ·split at c
    ·cases c
    ·obtain⟨r,rfl⟩:=oe m _ d;obtain⟨s,rfl⟩:=oe m _ c;exact EZ q r s e
structure MendL(ps:Lx Par)(lim:LJ)(l ws:Lx LJ)(Ls:Lx (Lx (Lx LJ))):Prop where
 mem:∀L∈Ls,∀s∈L,s.Perm l
 len:∀L∈Ls,L.length<=100
 many:Ls.length<=20
 end':Ls.getLast?=Lq []
 mend:qP ps lim l.length 20 [cm l] [cm l] 0=Lq (At ps Ls 0)
 yes:∀k b,At ps Ls 0=Lq (k,b)->∃p,(bm ws ws.length []).find? (aY ps lim)=Lq p/\¬ bC b p<0/\p.Perm l/\b.Perm l
 no:At ps Ls 0=Lw->(bm ws ws.length []).find? (aY ps lim)=Lw
def kF{n:Ly}{x:LJ}:x∈aJ n↔0<=x/\x<n:=by
 unfold aJ;rw[Nt];constructor
 ·rintro⟨a,h,rfl⟩;have:=Nj.1 h;omega
 ·exact λh=>⟨x.toNat,Nj.2 (by omega),by omega⟩
end
section
open Go.RowKit
def zj(x:Lx LJ):Lx (Lx LJ)->Lx (Lx LJ)
 | []=>[x]
 | y::l=>if bC x y<0 then x::y::l else y::zj x l
def oB(x:Lx LJ):∀l,(zj x l).Perm (x::l)
 | []=>.refl _
 | y::l=>by
  unfold zj;split
  ·exact .refl _
  ·exact((oB x l).cons y).t (.swap _ _ _)
def Dz(L:Lx (Lx LJ)):Lx (Lx LJ):=L.foldr zj []
def me:∀L,(Dz L).Perm L
 | []=>.refl _
 | x::L=>(oB x _).t ((me L).cons x)
def Ao{x:Lx LJ}:∀{l:Lx (Lx LJ)},l.Pairwise (λa b=>bC a b<0)->x∉l->(zj x l).Pairwise λa b=>bC a b<0
 | [],_,_=>by simp[zj]
 | y::l,h,g=>by
  have⟨i,j⟩:=PR.1 h;unfold zj;split
  ·rename_i c
   refine PR.2 ⟨λb d=>?_,h⟩;rcases MK.1 d with rfl | d
   ·exact c
   ·exact gR c (i b d)
  ·rename_i c
   have f:bC y x<0:=by
    have n:=nF x y;by_cases e:bC x y=0
    ·exact absurd (pZ e) (λe=>g (by simp[e]))
    ·omega
   refine PR.2 ⟨λb d=>?_,Ao j λh=>g (by simp[h])⟩;rcases MK.1 ((oB x l).subset d) with rfl | d
   ·exact f
   ·exact i b d
def wb:∀{L:Lx (Lx LJ)},L.Nodup->(Dz L).Pairwise λa b=>bC a b<0
 | [],_=>.nil
 | x::L,h=>by
  have⟨e,d⟩:=List.nodup_cons.1 h;exact Ao (wb d) λc=>e ((me L).subset c)
def ma:∀{a b:Lx LJ},a.Pairwise (·<·)->b.Pairwise (·<·)->(∀x,x∈a↔x∈b)->a=b
 | [],[],_,_,_=>rfl
 | [],y::b,_,_,h=>absurd ((h y).2 (by simp)) (by simp)
 | x::a,[],_,_,h=>absurd ((h x).1 (by simp)) (by simp)
 | x::a,y::b,j,i,h=>by
  have⟨g,n⟩:=PR.1 j;have⟨f,l⟩:=PR.1 i;have e:x=y:=by
   rcases MK.1 ((h x).1 (by simp)) with e | d
   ·exact e
   ·rcases MK.1 ((h y).2 (by simp)) with e | k
    ·exact e.symm
    ·have:=g y k;have:=f x d;omega
  subst e;refine congrArg _ (ma n l λz=>?_);constructor
  ·intro c;rcases MK.1 ((h z).1 (by simp[c])) with rfl | d
   ·have:=g z c;omega
   ·exact d
  ·intro c;rcases MK.1 ((h z).2 (by simp[c])) with rfl | d
   ·have:=f z c;omega
   ·exact d
def ml:∀{q l:Lx LJ},q.Sublist l->q∈dI l q.length
 | [],l,_=>by simp[dI]
 | x::q,l,h=>by
  obtain⟨a,b,rfl,d,f⟩:=List.cons_sublist_iff.1 h;have⟨i,c,e⟩:=List.mem_iff_getElem.1 d;refine Ox.2 ⟨i,Nj.2 (by rw[Na];omega),?_⟩;rw[Mv c,LO c,LQ,e];refine Nt.2 ⟨q,?_,rfl⟩;refine ml (f.trans ?_);rw[List.drop_append_of_le_length (by omega)];exact List.sublist_append_right _ _
def AE{n:Ly}{a:Lx LJ}(c:a.Pairwise (·<·))(b:∀x∈a,0<=x/\x<n):a.Sublist (aJ n):=by
 have e:a=(aJ n).filter λx=>decide (x∈a):=ma c ((bE _).filter _) λx=>by
  rw[Oa,decide_eq_true_eq];exact⟨λh=>⟨kF.2 (b x h),h⟩,λh=>h.2⟩
 rw[e];exact List.filter_sublist
def uk{n:Ly}(b:n<=5){c:Lx LJ}(a:c∈cy (aJ n) 0):c.Sublist (aJ n):=by
 rw[nO n b] at a;rcases MK.1 a with rfl | a
 ·exact Wy _
 ·obtain⟨k,-,h⟩:=Ox.1 a;exact mg _ _ c h
def IY{n:Ly}(b:n<=5){c:Lx LJ}(a:c.Sublist (aJ n))(e:c≠[]):c∈cy (aJ n) 0:=by
 rw[nO n b];refine Rx _ (Ox.2 ⟨c.length,?_,ml a⟩);have d:=a.length_le;rw[bw] at d;have:=Pr.2 e;exact List.mem_range'_1.2 ⟨by omega,by omega⟩
def yp:∀n,n<=5->(cy (aJ n) 0).Nodup
 | 0,_=>by decide
 | 1,_=>by decide
 | 2,_=>by decide
 | 3,_=>of_decide_eq_true (by kernel_rfl)
 | 4,_=>of_decide_eq_true (by kernel_rfl)
 | 5,_=>of_decide_eq_true (by kernel_rfl)
 | n+6,h=>by omega
def Gy{n:Ly}(j:n<=5){s:Lx LJ}:s∈yR n↔s≠[]/\s.Nodup/\∀x∈s,0<=x/\x<n:=by
 unfold yR;rw[Oa,Ox];constructor
 ·rintro⟨⟨c,l,h⟩,k⟩;have b:=uk j l;have d:c.Nodup:=(cD (bE n)).sublist b;have i:=(cE d).1 h;exact⟨λe=>(by rw[e] at k;cases k),i.nodup_iff.2 d,λx g=>dM (b.subset (i.subset g))⟩
 ·rintro⟨q,p,o⟩;have⟨f,h⟩:=ri p;have a:=AE h λx g=>o x (f.subset g);refine⟨⟨_,IY j a (λe=>q (by rw[e] at f;exact f.symm.eq_nil)),?_⟩,by cases s<;>simp_all⟩;exact(cE ((cD (bE n)).sublist a)).2 f.symm
def yQ{n:Ly}(d:n<=5):(yR n).Nodup:=by
 refine Va _ (UK.2 ⟨λc q=>?_,?_⟩)
 ·have g:=uk d q;exact(mU ((bE n).sublist g) c.length []).imp λh e=>by rw[e,dE] at h;omega
 ·refine(PP.1 (yp n d)).imp λ{a b} h x p y o e=>?_;obtain⟨s,r,f⟩:=h;have j:=uk d s;have i:=uk d r;have l:=(cE ((cD (bE n)).sublist j)).1 p;have k:=(cE ((cD (bE n)).sublist i)).1 o;refine f (ma ((bE n).sublist j) ((bE n).sublist i) λz=>?_);rw[<- l.mem_iff,e,k.mem_iff]
def xz(R:LA)(b:Lx Par)(a:LJ)(w:Lt)(I:aC 0 w.heap.size w R b)(v:YOk b a)(S:∃p∈b,¬ p.tall<=a) :MH Ya 63 #[.agg #[R,a]] w λe V=>e=.returned (.tuple #[.slice Lw 0 0,.int .i64 11])/\w.gb V Lw:=by
 obtain⟨D,C,rfl,a7,-⟩:=I.cell;have⟨T,B,HT⟩:=bL I v S;clear I v S;go_enter Tp.x63,UA;go_wp2;refine SP ?_;go_upto_region 4 with(go_at_call 81;refine(fA 0 w.heap.size _ _ b a [] _ (T.kept (Lr _ _ Lw)) (ai.nil _ _ _) (by simp) B (POk.nil b B.l1)).mono ?_;rintro e Q ⟨rfl,z⟩;have P:=Lu ((Lr w (.cells #[.slice D b.length C,a] 24) Lw).t z);clear z);obtain⟨Y,i⟩:∃Y,Y=Q.heap.size:=⟨_,rfl⟩;obtain⟨r,d⟩:∃r,r=Q.alloc (.cells #[.slice D b.length C,a] 91):=⟨_,rfl⟩;rw[<- i,<- d];have c:r.heap[Y]?=Lq (.cells #[.slice D b.length C,a] 91 (0,0)):=by rw[d,i];exact LS _ _
 have f:w.gb r Lw:=P.out.t (by rw[d];exact Lr _ _ Lw);have⟨L,O⟩:=aS c f;have q0:=aa c (o:=0) rfl;have X:=aa c (o:=1) rfl;have N:=Lu ((T.kept f).mono (LC _) f.size);clear i d c f;go_wp2;go_loopw [29] (λF wr=>∃k:Ly,F=.int .i64 k/\k<=b.length/\r.gb wr Lw/\∀p∈b.take k,p.tall<=a) (λF _=>(b.length - intOf F).toNat)
 case atStart=>exact⟨0,rfl,by omega,Mf _ _,by simp⟩
 case round=>
  obtain⟨k,rfl,hk,n,s⟩:=hrel;have A:=Lu s;clear s;have U:=Lu n;have l:=N.out.kept n;have Z:=n.cl q0;have W:=n.cl X;have b0:Y<wr.heap.size:=by have:=aH L;have:=n.size;omega
  clear n;by_cases y:k<b.length
  ·obtain⟨b2,c2,he,-,H⟩:=l.cell;cases he;obtain⟨YB,yo,rfl,b7,b6,c,j⟩:=H (by intro e;rw[e] at y;simp at y);have⟨p,u,p0,p1,p2,p3⟩:=j k (by omega);have M:=Lu (show p.tall<=a->∀q∈b.take (k+1),q.tall<=a from λh q g=>by
    rw[Np,u] at g;rcases Ob.1 g with g | g
    ·exact A q g
    ·simp at g;rw[g];exact h)
   by_cases G:p.tall<=a
   ·have x:(k:LJ)<(b.length:LJ):=by omega
    clear H j u l;go_wp2;go_roundw
    case rel=>exact⟨k+1,by simp,by omega,U.t (Lr _ _ _),M G⟩
    case measure=>simp[intOf];omega
   ·have x:(k:LJ)<(b.length:LJ):=by omega
    clear H j u l;go_wp2;go_ret2;exact⟨rfl,O.t (U.t (Lr _ _ _))⟩
  ·obtain rfl:k=b.length:=by omega
   have⟨p,u,hn⟩:=HT.out;have:=A.out p (by rw[NH];exact u);omega
def zv(q:LA)(g:Lx Par)(f:LJ)(w:Lt)(l:aC 0 w.heap.size w q g)(o:bX g f≠0) :MH Ya 63 #[.agg #[q,f]] w λe v=>e=.returned (.tuple #[.slice Lw 0 0,(bX g f)])/\w.gb v Lw:=by
 obtain⟨u,s,rfl,x,-⟩:=l.cell;have h:=Lr w (.cells #[.slice u g.length s,f] 24) Lw;have i:=qI 0 w.heap.size _ _ g f [] _ (l.kept h) (ai.nil _ _ _) h.size (by simp);rw[show Bt g f []=bX g f from if_neg o] at i;have⟨r,y⟩:=aS i h;have k:(bX g f == 0)=LH:=by rw[beq_eq_false_iff_ne];exact o
 generalize bX g f=c at r k ⊢;clear l h i o;go_enter Tp.x63,UA;go_wp2;refine SP ?_;go_wp2_with (go_at_call 81;refine r.mono ?_;rintro e z ⟨a,n,b,d,rfl,j,-⟩;have p:=Lu (y.t j);clear j);rw[Exit.noGoto_ret];go_ret2;exact⟨rfl,p.t (Lr _ _ Lw)⟩
def oD(b:Lx Par)(a:LJ):Lx (Lx LJ):=Dz (dY b a (cy (aJ b.length) 0))
def ic(b:Lx Par)(a:LJ):Lx (Lx LJ):=match sx 10 (oD b a) (aP (aJ b.length)) [([],0)] with
 | some (Lq R)=>R
 | _=>[]
def uC:∀n,n<=5->((cy (aJ n) 0).flatMap bV).length<=400
 | 0,_=>by decide
 | 1,_=>by decide
 | 2,_=>by decide
 | 3,_=>of_decide_eq_true (by kernel_rfl)
 | 4,_=>of_decide_eq_true (by kernel_rfl)
 | 5,_=>of_decide_eq_true (by kernel_rfl)
 | n+6,h=>by omega
def ja(b:Lx Par)(a:LJ):(oD b a).Perm (dY b a (cy (aJ b.length) 0)):=me _
def fG{b:Lx Par}{a:LJ}(c:b.length<=5){s:Lx LJ}:s∈oD b a↔(s≠[]/\s.Nodup/\∀x∈s,0<=x/\x<b.length)/\aY b a s=LG:=by
 rw[(ja b a).mem_iff,kW,Oa,Gy c]
def GU{d:Lx Par}{c:LJ}(e:d.length<=5):(oD d c).Pairwise λa b=>bC a b<0:=wb (by rw[kW];exact(yQ e).filter _)
def wO{a:Lx Par}{b:LJ}(d:YOk a b)(f:∀p∈a,p.tall<=b){x:Ly}(e:x<a.length):aY a b [(x:LJ)]=LG:=by
 obtain⟨p,c⟩:∃p,a[x]?=Lq p:=⟨_,LO e⟩;have hm:=Mh c;have l:=d.each p hm;have g:=f p hm;have k:aV a [(x:LJ)]=p.tall:=by simp[aV,dQ,c]
 have i:aL a (pre Par.mx a a.length) [(x:LJ)]=LG:=lT.2 λj h=>by
  obtain rfl:j=0:=by simp at h;omega
  unfold uG;rw[oZ _ _ _ (by simp)];simp[c];omega
 unfold aY;rw[k,i,decide_eq_true g];rfl
def uS{b:Lx Par}{a:LJ}(f:YOk b a)(i:∀p∈b,p.tall<=a) :sx 10 (oD b a) (aP (aJ b.length)) [([],0)]=Lq (Lq (ic b a))/\jl (oD b a) b.length (ic b a)/\(∀R,jl (oD b a) b.length R->(ic b a).length<=R.length) /\∃p,(lev (oD b a) (ic b a).length).find? (λp=>p.2 == aP (aJ b.length))=Lq p/\p.1=ic b a:=by
 have c:=f.len;have l:∀t∈oD b a,∀x∈t,0<=x/\x<b.length:=λt h=>((fG c).1 h).1.2.2;have s:∀x:Ly,x<b.length->[(x:LJ)]∈oD b a:=λx d=>(fG c).2 ⟨⟨by simp,by simp,by simp;omega⟩,wO f i d⟩;have j:=BI c (ja b a) (λt h=>by
  have:=(fG c).1 h;exact⟨this.1.1,λx d=>by have:=this.1.2.2 x d;omega⟩)
 obtain⟨k,p,r,g,q,-,o,n⟩:=Ji l s j c;have e:ic b a=p.1:=by unfold ic;rw[g]
 rw[e,q];exact⟨g,o,n,p,r,rfl⟩
def zu(h:LA)(b:Lx Par)(a:LJ)(w:Lt)(o:aC 0 w.heap.size w h b)(d:YOk b a)(i:∀p∈b,p.tall<=a)(n:0<b.length) :MH Ya 63 #[.agg #[h,a]] w λe g=>∃v,e=.returned (.tuple #[v,.int .i64 0])/\w.gb g Lw/\RowsIn 0 g.heap.size g v (ic b a):=by
 have c:=d.len;have k:(dY b a (cy (aJ b.length) 0)).length<=400:=by
  rw[kW];exact LN (Oq _ _) (LN (Oq _ _) (uC _ c))
 have q:[((0:Ly):LJ)]∈oD b a:=(fG c).2 ⟨⟨by simp,by simp,by simp;omega⟩,wO d i n⟩;exact BY h b a w o d (λx f j=>⟨j,f,by have:=fh b.length x f j;omega⟩) i (LN (uC _ c) (by decide)) _ rfl k (λe=>by
  have:=(ja b a).subset q;rw[e] at this;cases this) (oD b a) (ja b a).length_eq (Gc (ja b a) (GU c) k) (λs l=>by
  have:=(fG c).1 l;exact⟨this.1.1,λx f=>by have:=this.1.2.2 x f;omega⟩) 10 (by decide) (ic b a) (uS d i).1
def KY(a:LU MN)(c:Ly)(w:Lt):MH Ya 188 #[.slice a 0 c,.int .i64 0,.int .i64 0,.func (.func 122) #[] #[]] w λe b=>e=.returned (.tuple #[])/\w=b:=by
 go_enter Tp.x188,Tryz.ntmps188;go_wp2;go_loopw [8] (λd wr=>d=.int .i64 1/\w=wr) (λ_ _=>0)
 case atStart=>exact⟨rfl,rfl⟩
 case round=>
  obtain⟨rfl,rfl⟩:=hrel;go_wp2;go_end0;first | exact⟨rfl,rfl⟩ | exact rfl
def KT(a:LU MN)(c:Ly)(d:LJ)(w:Lt):MH Ya 155 #[.slice a 0 c,.int .i64 0,.int .i64 0,d,.func (.func 122) #[] #[]] w λe f=>e=.returned (.tuple #[])/\w=f:=by
 go_enter Tp.x155,Tryz.ntmps155;go_wp2;go_loopw [1,2,3] (λa b c wr=>a=.int .i64 0/\b=.int .i64 0/\c=.int .i64 d/\w=wr) (λ_ _ _ _=>0)
 case atStart=>exact⟨rfl,rfl,rfl,rfl⟩
 case round=>
  obtain⟨rfl,rfl,rfl,rfl⟩:=hrel;go_wp2_with (go_at_call 188;refine(KY _ _ _).mono ?_;rintro e g ⟨rfl,rfl⟩);refine Ot (results_none rfl _ _ _) rfl ?_;exact⟨rfl,rfl⟩
def JO(a:LU MN)(c:Ly)(w:Lt):MH Ya 121 #[.slice a 0 c,.func (.func 122) #[] #[]] w λe d=>e=.returned (.tuple #[])/\w=d:=by
 have g:IntKind.u64.wrap 0=0:=by decide
 have f:=px 0 (by omega);go_enter Tp.x121,Tryz.ntmps121;go_wp2_with (first
  | (go_at_call 156;refine(f _).mono ?_;rintro e b ⟨v,rfl,rfl⟩)
  | (go_at_call 155;refine(KT _ _ _ _).mono ?_;rintro e b ⟨rfl,rfl⟩))
 go_end0;exact⟨rfl,rfl⟩
def xA(pv:LA)(b:Lx Par)(c:LJ)(w:Lt)(hP:aC 0 w.heap.size w pv b)(F:YOk b c)(s:b.length=0) :MH Ya 63 #[.agg #[pv,c]] w λe w'=>∃v,e=.returned (.tuple #[v,.int .i64 0])/\w.gb w' Lw/\RowsIn 0 w'.heap.size w' v []:=by
 obtain⟨T,S,rfl,p8,-⟩:=hP.cell;have⟨HP,l⟩:=aS hP F;have HN:=Lu (show((cy (aJ b.length) 0).flatMap bV).length<=1000 from LN (uC _ F.len) (by decide));have d5:=Lu (show ∀x:Lx LJ,x.Nodup->(∀y∈x,0<=y/\y<b.length)->PIn b x from λx hx hr=>⟨hr,hx,by have:=fh b.length x hx hr;omega⟩);have c9:=Lu (show dY b c (cy (aJ b.length) 0)=[] by rw[s];rfl);have m4:=Lu (show aP (aJ b.length)=0 by rw[s];rfl);have l8:=Lu s;clear hP F s;go_enter Tp.x63,UA;go_wp2;refine SP ?_;go_upto_region 4 with(go_at_call 81;refine(fA 0 w.heap.size _ _ b c [] _ (HP.kept (Lr _ _ Lw)) (ai.nil _ _ _) (by simp) l (POk.nil b l.l1)).mono ?_;rintro e w2 ⟨rfl,b7⟩;have e8:=Lu ((Lr w (.cells #[.slice T b.length S,c] 24) Lw).t b7);clear b7);obtain⟨Y,H⟩:∃Y,Y=w2.heap.size:=⟨_,rfl⟩;obtain⟨Q,q⟩:∃Q,Q=w2.alloc (.cells #[.slice T b.length S,c] 91):=⟨_,rfl⟩;rw[<- H,<- q];have B:Q.heap[Y]?=Lq (.cells #[.slice T b.length S,c] 91 (0,0)):=by rw[q,H];exact LS _ _
 have C:w.gb Q Lw:=e8.out.t (by rw[q];exact Lr _ _ Lw);have⟨O,n⟩:=aS B C;have q0:=aa B (o:=0) rfl;have q1:=aa B (o:=1) rfl;have d7:=Lu ((HP.kept C).mono (LC _) C.size);clear H q B C;go_wp2;go_loopw [29] (λX wr=>∃k:Ly,X=.int .i64 k/\k<=b.length/\Q.gb wr Lw) (λX _=>(b.length - intOf X).toNat)
 case atStart=>exact⟨0,rfl,by omega,Mf _ _⟩
 case round=>
  obtain⟨k,rfl,hk,R⟩:=hrel;have HG:=Lu R;have l7:=d7.out.kept R;have h8:=R.cl q0;have g9:=R.cl q1;have k0:Y<wr.heap.size:=by have:=aH O;have:=R.size;omega
  clear R;have q2:¬ k<b.length:=by have:=l8.out;omega
  obtain rfl:k=b.length:=by omega
  clear l7;go_upto_region 11 with(fail);obtain⟨Sg,I⟩:∃Sg,Sg=wr.heap.size:=⟨_,rfl⟩;obtain⟨W,p⟩:∃W,W=wr.alloc (.cells #[.slice Lw 0 0] 36):=⟨_,rfl⟩;rw[<- I,<- p];have c3:W.heap[Sg]?=Lq (.cells #[.slice Lw 0 0] 36 (0,0)):=by rw[p,I];exact LS _ _
  have i:Q.gb W Lw:=HG.out.t (by rw[p];exact Lr _ _ Lw);have z:=bk i O;have p9:w.heap.size<=Sg:=by have:=n.out.size;have:=HG.out.size;omega
  have⟨P,j⟩:=aS c3 z;have g:=Lu (n.t i);have d6:=Lu ((HP.kept (n.t i)).mono (LC _) (n.t i).size);have c0:=aa z (o:=0) rfl;have c1:=aa z (o:=1) rfl;clear I p c3 i z O q0 q1 h8 g9 k0;have hn:b.length<=1000:=by have:=l.out.len;omega
  go_upto_region 12 with(first
   | (go_at_call 100;refine(ea T b.length S c W hn).mono ?_;rintro e w5 ⟨v5,rfl,b6,N⟩;obtain⟨b5,k5,e5,-,-⟩:=N.cell;rw[bw] at e5;subst e5;have a:=Lu b6;have d9:=Lu N;clear b6 N)
   | (go_at_call 82;refine(Au (bk a j) ((d6.kept a).mono (LC _) a.size) (bk a P) l d5 HN (d9.mono (Mw _) (LC _))).mono ?_;rintro e V ⟨rfl,G6,b8⟩;have f:=Lu b8;clear b8))
  obtain⟨sv,m6,D,a7,-,-⟩:=(show mD Sg w5 [] G6 V by rw[<- c9];exact f).sg;obtain⟨sa,sc,rfl,-⟩:=oh a7;have a6:w.gb V Lw:=⟨f.os.trans (g.t a).os,f.tape.trans (g.t a).tape,f.output.trans (g.t a).output,LN (g.t a).size f.size,λk hk _=>(f.keep k (LY hk (g.t a).size) (by omega)).t ((g.t a).block k hk (by simp))⟩;have u:V.heap[Y]?=_:=(f.keep Y (aH (bk a j)) (λe=>by have h:=j.out;rw[e,P] at h;injection h with h;injection h with _ h _;exact absurd h (by decide))).t (bk a j);have e7:=Lu a6;have c6:=aa D (o:=0) rfl;have d0:=aa u (o:=0) rfl;have d1:=aa u (o:=1) rfl;have l6:=Lu u;clear a6 u D a7 c0 c1 f;simp only[Mj] at c6;go_upto_region 13 with(go_at_call 121;refine(JO sa sc V).mono ?_;rintro e w7 ⟨rfl,rfl⟩);have h5:∀x∈aJ b.length,0<=x/\x<5:=λx hx=>by have:=dM hx;have:=l.out.len;omega
  have H5:=Lu h5;clear h5;go_upto_region 14 with(first
   | (go_at_call 100;refine(ea T b.length S c V hn).mono ?_;rintro e U ⟨v9,rfl,a8,M⟩;obtain⟨b9,k9,e9,-,-⟩:=M.cell;rw[bw] at e9;subst e9;have e6:=Lu a8;have d8:=Lu M;clear a8 M)
   | (go_at_call 123;refine(nW _ _ _ _ U d8 H5).mono ?_;rintro e d ⟨rfl,rfl⟩))
  rw[m4];have Z:=Lu (e7.t e6);clear d0 d1 c6 HP d7 d6 P j l6 d9 d8 e8 n g a e7 e6 HG H5 HN d5 c9;rw[show(((0:Ly):LJ))=0 from rfl];go_upto_region 15 with(fail);obtain⟨A,hA⟩:∃A,A=U.heap.size:=⟨_,rfl⟩;have hB:(U.alloc (.cells #[.slice Lw 0 0,.int .u8 0] 133)).heap[A]?=Lq (.cells #[.slice Lw 0 0,.int .u8 0] 133 (0,0)):=by rw[hA];exact LS _ _
  have e4:=Lu (Z.t (Lr U (.cells #[.slice Lw 0 0,.int .u8 0] 133) Lw));rw[<- hA];generalize U.alloc (.cells #[.slice Lw 0 0,.int .u8 0] 133)=d at hB e4 ⊢;clear hA Z;refine wp_label ?_;go_wp2;go_loopw [10] (λnv wr=>nv=.slice (Lq A) 1 1/\d=wr) (λ_ _=>0)
  case atStart=>exact⟨rfl,rfl⟩
  case round=>
   obtain⟨rfl,rfl⟩:=hrel;go_wp2;go_loopw [11,53] (λ_ X wr=>X=.int .i64 0/\d=wr) (λ_ _ _=>0)
   case atStart=>exact⟨rfl,rfl⟩
   case round=>
    obtain⟨rfl,rfl⟩:=hrel;have c0:=aa hB (o:=0) rfl;have c1:=aa hB (o:=1) rfl;go_upto_region 19 with(fail);obtain⟨Pb,L⟩:∃Pb,Pb=d.heap.size:=⟨_,rfl⟩;rw[<- L];have G:d.gb (d.alloc (.cells #[.slice Lw 0 0,.int .u8 0] 133)) Lw:=Lr _ _ Lw;have r:(d.alloc (.cells #[.slice Lw 0 0,.int .u8 0] 133)).heap[Pb]?=Lq (.cells #[.slice Lw 0 0,.int .u8 0] 133 (0,0)):=by rw[L];exact LS _ _
    generalize d.alloc (.cells #[.slice Lw 0 0,.int .u8 0] 133)=w11 at G r ⊢;have b0:=aa r (o:=0) rfl;have b1:=aa r (o:=1) rfl;have l9:=Lu G;clear L r G c0 c1 hB;go_wp2;rw[Exit.noGoto_ret];go_ret2;exact⟨_,rfl,e4.t l9,⟨Lw,0,rfl,by simp,λh=>absurd rfl h⟩⟩
def uO(b:Lx Par)(a:LJ):MC:=b.all λp=>decide (p.tall<=a)
def jc(b:Lx Par)(a:LJ):LJ:=if bX b a=0 then(if uO b a=LG then 0 else 11) else bX b a
def rq(b:Lx Par)(a:LJ):Lx (Lx LJ):=if bX b a=0/\uO b a=LG then ic b a else[]
def iu{b:Lx Par}{a:LJ}:uO b a=LG↔∀p∈b,p.tall<=a:=by
 unfold uO;simp only[MD,decide_eq_true_eq]
def BZ{a:Lx Par}{b:LJ}(h:a.length=0):ic a b=[]:=by
 unfold ic;rw[show aP (aJ a.length)=0 by rw[h];rfl];rfl
def mA(d:LA)(b:Lx Par)(a:LJ)(w:Lt)(j:aC 0 w.heap.size w d b) :MH Ya 63 #[.agg #[d,a]] w λe g=>∃v,e=.returned (.tuple #[v,(jc b a)])/\w.gb g Lw/\RowsIn 0 g.heap.size g v (rq b a):=by
 by_cases c:bX b a=0
 ·have k:=tY c;by_cases f:uO b a=LG
  ·rw[show jc b a=0 by unfold jc;rw[if_pos c,if_pos f],show rq b a=ic b a from if_pos ⟨c,f⟩];by_cases i:b.length=0
   ·rw[BZ i];exact xA d b a w j k i
   ·exact zu d b a w j k (iu.1 f) (by omega)
  ·rw[show jc b a=11 by unfold jc;rw[if_pos c,if_neg f],show rq b a=[] from if_neg λh=>f h.2];refine(xz d b a w j k (MX λi=>f (iu.2 λp n=>MX λh=>i ⟨p,n,h⟩))).mono ?_;rintro e g ⟨rfl,l⟩;exact⟨_,rfl,l,⟨Lw,0,rfl,by simp,λh=>absurd rfl h⟩⟩
 ·rw[show jc b a=bX b a from if_neg c,show rq b a=[] from if_neg λh=>c h.1];refine(zv d b a w j c).mono ?_;rintro e g ⟨rfl,l⟩;exact⟨_,rfl,l,⟨Lw,0,rfl,by simp,λh=>absurd rfl h⟩⟩
end
section
open Go Go.RowKit Go.Co Go.Sim Go.Conc Go.ConcN
def ng{w:Lt}{B:Ly}{a:LM LA}{b:Ly × Ly}(l:Lx LJ)(h:w.heap[B]?=Lq (.cells a 3 b))(e:a=(l.map (Mp .i64)).toArray)(c:(l.length:LJ)<=1000000):ai 0 w.heap.size w (.slice (Lq B) l.length l.length) l :=
 ⟨_,_,rfl,c,λ_=>⟨B,0,a,b,rfl,Mw _,aH h,h,λi d=>by rw[e];simp[d]⟩⟩
def dS(w:Lt){a:LM LA}(l:Lx LJ)(c:a=(l.map (Mp .i64)).toArray)(b:(l.length:LJ)<=1000000):ai 0 (w.alloc (.cells a 3)).heap.size (w.alloc (.cells a 3)) (.slice (Lq w.heap.size) l.length l.length) l:=ng l (LS w _) c b
def ai.kn{w u:Lt}{T:Ly->NU->Ly}{v:LA}{l:Lx LJ}(h:ai 0 w.heap.size w v l)(a:(w.tp T).gb u Lw):ai 0 u.heap.size u v l:=(ai.kept (w:=w.tp T) h a (by simp)).mono (LC _) a.size
def bg.kn{w u:Lt}{T:Ly->NU->Ly}{v:LA}{l:Lx (LJ × LJ)}(h:bg 0 w.heap.size w v l)(a:(w.tp T).gb u Lw):bg 0 u.heap.size u v l:=(bg.kept (w:=w.tp T) h a (by simp)).mono (LC _) a.size
def RowsIn.kn{w u:Lt}{T:Ly->NU->Ly}{v:LA}{l:Lx (Lx LJ)}(h:RowsIn 0 w.heap.size w v l)(a:(w.tp T).gb u Lw):RowsIn 0 u.heap.size u v l:=(RowsIn.kept (w:=w.tp T) h a (by simp)).mono (LC _) a.size
def Ay{ps:Lx Par}{m:Ly}(hm:1<=m)(b:∀p∈ps,kOf p<=m):∀(a:Lx LJ) (L:Lx (Ly->LJ)),(a.foldl (iy ps) L).length<=L.length*m ^ a.length
 | [],L=>by simp
 | x::a,L=>by
  have c:=Ay hm b a (iy ps L x);have e:(iy ps L x).length<=L.length*m:=by
   unfold iy;split
   ·rename_i p d
    rw[iN];exact Tz _ (b p (Mh d))
   ·exact Nat.le_mul_of_pos_right _ hm
  rw[OI,LX,Nat.pow_succ];refine LN c (LN (PF _ e) ?_);rw[Nat.mul_assoc,Nat.mul_comm m];exact LC _
def Hf{ps:Lx Par}{b:LJ}(h:YOk ps b){l a:Lx LJ}(g:∀y∈l,0<=y/\y<ps.length)(e:l.length<=1000)(c:∀y∈a,0<=y/\y<ps.length)(k:a.length<=5):FH ps l a:=by
 refine⟨h.len,λp d=>?_,g,e,c,by omega,λj n=>?_⟩
 ·have:=h.each p d;omega
 ·have i:=Ay (ps:=ps) (m:=12) (by omega) (λp d=>by have:=h.each p d;unfold kOf;omega) (a.take j) [λ_=>0];have o:12 ^ (a.take j).length<=12 ^ 5:=Nat.pow_le_pow_right (by omega) (by rw[OX];omega);unfold fL;simp only[LX,Mj,Mn,Nat.one_mul] at i;omega
def BG{w:Lt}{B:Ly}{a:LM LA}{c:Ly × Ly}(h:w.heap[B]?=Lq (.cells a 26 c))(d:a=#[.int .i64 6,.int .i64 9,.int .i64 2,.int .i64 3,.int .i64 0,.int .i64 0]):bg 0 w.heap.size w (.slice (Lq B) 3 3) [(6,9),(2,3),(0,0)]:=by
 refine⟨_,_,rfl,by decide,λ_=>⟨B,0,a,c,rfl,Mw _,aH h,h,λi b=>?_⟩⟩;subst d;have b:i<3:=b;obtain rfl | rfl | rfl:i=0\/i=1\/i=2:=by omega
 all_goals exact⟨_,rfl,rfl,rfl⟩
def Ek{w:Lt}{B A1 A2:Ly}{fr:Ly × Ly}(h:w.heap[B]?=Lq (.cells #[.slice (Lq A1) 2 2,.slice (Lq A2) 2 2] 29 fr))(c:ai 0 w.heap.size w (.slice (Lq A1) 2 2) [0,2])(b:ai 0 w.heap.size w (.slice (Lq A2) 2 2) [1,3]):RowsIn 0 w.heap.size w (.slice (Lq B) 2 2) [[0,2],[1,3]]:=by
 refine⟨_,_,rfl,by decide,λ_=>⟨B,0,_,fr,rfl,Mw _,aH h,h,λi a=>?_⟩⟩;have a:i<2:=a;obtain rfl | rfl:i=0\/i=1:=by omega
 ·exact⟨_,_,rfl,rfl,c⟩
 ·exact⟨_,_,rfl,rfl,b⟩
def zL(w:Lt):RowsIn 0 (((w.alloc (.cells #[.int .i64 0,.int .i64 2] 3)).alloc (.cells #[.int .i64 1,.int .i64 3] 3)).alloc (.cells #[.slice (Lq w.heap.size) 2 2,.slice (Lq (w.heap.size+1:Ly)) 2 2] 29)).heap.size (((w.alloc (.cells #[.int .i64 0,.int .i64 2] 3)).alloc (.cells #[.int .i64 1,.int .i64 3] 3)).alloc (.cells #[.slice (Lq w.heap.size) 2 2,.slice (Lq (w.heap.size+1:Ly)) 2 2] 29)) (.slice (Lq (w.heap.size+2:Ly)) 2 2) [[0,2],[1,3]]:=by
 refine Ek (A1:=w.heap.size) (A2:=w.heap.size+1) (fr:=(0,0)) ?_ ?_ ?_
 ·have h:=LS ((w.alloc (.cells #[.int .i64 0,.int .i64 2] 3)).alloc (.cells #[.int .i64 1,.int .i64 3] 3)) (.cells #[.slice (Lq w.heap.size) 2 2,.slice (Lq (w.heap.size+1:Ly)) 2 2] 29);rw[Mc,Mc] at h;exact h
 ·exact ng [0,2] (aD (aD (LS w _))) rfl (by decide)
 ·have h:=LS (w.alloc (.cells #[.int .i64 0,.int .i64 2] 3)) (.cells #[.int .i64 1,.int .i64 3] 3);rw[Mc] at h;exact ng [1,3] (aD h) rfl (by decide)
def bW[JunkSet]{f:Nh}{Post:LA->Lt->Prop}{W:Lt}{g:LD}{w:Lt}(F:Lt->Prop)(a:F w)(h:∀u,F u->EL Ya Ma f Post W g u):EL Ya Ma f Post W g w:=h w a
def Kl:jc (bD 8) 6=0:=by kernel_rfl
def Km:rq (bD 8) 6=[[0,2],[1,3]]:=by kernel_rfl
def KZ(b:LA)(w:Lt)(c:aC 0 w.heap.size w b (bD 8)):MH Ya 63 #[.agg #[b,.int .i64 6]] w λe a=>∃v,e=.returned (.tuple #[v,.int .i64 0])/\w.gb a Lw/\RowsIn 0 a.heap.size a v [[0,2],[1,3]]:=by
 have h:=mA b (bD 8) 6 w c
 rwa [Kl,Km] at h
section
variable[J:JunkSet]{f:Nh}{Post:LA->Lt->Prop}{W:Lt}
def Lh(D:Two Ya Ma)(h9:JunkSet.okf 137)(k0:∀i,¬ JunkSet.jk i)(k5:Ya.inits.idxOf? f=Lw)(k7:∃g,Ya.funcs[f]?=Lq g/\Tryz.prog.funcs[f]?=Lq g){wq:Lt}(h0:bq wq 0) :EC Ya Ma f Post W 23 #[] wq λv u=>v=.bool LG/\(wq.tp u.tape).gb u Lw:=by
 have z:Ya.funcs[(Mo 23).fn]?=Tryz.prog.funcs[(Mo 23).fn]?:=bG 23 (by decide);refine EC.of_body1 D (fn:=Tryz.f23) (c0:=Tryz.f23.body.getD .skip) (t:=0) Tp.x23 Tryz.func23 (by kernel_rfl) rfl λcs A N=>?_;have HR:=Lu N;clear N;simp only[Tryz.f23,LQ];walk_nrm;refine EL.sp D A z λT=>?_;go_wp2;refine EL.tape (wq:=wq) ?_ T;refine EL.sp D A z λT=>?_;go_wp2_with (first
  | (go_at_call 80;refine(eT 12 _).mono ?_;rintro e L ⟨V,rfl,d,a,b⟩;have r:=Lu d;have p:=Lu a;have C:=Lu b;obtain⟨I,H,rfl,-,-⟩:=a.cell;clear d a b)
  | (go_at_call 35;refine(BF 0 _ _ _ (bD 12) 6 [0,1,2] _ ((p.kept (Lr _ _ Lw)).mono (Mw _) (by rw[Mc];omega)) (dS _ [0,1,2] rfl (by decide)) (LC _) (gq (by omega)) (pT 12)).mono ?_;rintro e P ⟨Q,rfl,k,U⟩;rw[EM] at U;have x:=Lu k;have B3:=Lu U;clear k U))
 have j:=r.out.t ((Lr _ _ Lw).t x);refine bW (λu=>(wq.tp u.tape).gb u Lw/\bg 0 u.heap.size u Q [(6,9),(2,3),(0,0)]) ⟨tpg j,B3.mono (Mw _) (LC _)⟩ λu1 G=>?_;obtain⟨g1,bA⟩:=G;clear j B3 x r p C;refine EL.sp D A z λT=>?_;go_wp2_with (first
  | (go_at_call 80;refine(eT 8 _).mono ?_;rintro e L ⟨V,rfl,d,a,b⟩;have r:=Lu d;have p:=Lu a;have C:=Lu b;obtain⟨I,H,rfl,-,-⟩:=a.cell;clear d a b)
  | (go_at_call 37;refine(nR 0 _ _ _ (bD 8) 6 [0,1,2] _ ((p.kept (Lr _ _ Lw)).mono (Mw _) (by rw[Mc];omega)) (dS _ [0,1,2] rfl (by decide)) (LC _) (gq (by omega)) (pT 8)).mono ?_;rintro e P ⟨rfl,k⟩;rw[Ce];have x:=Lu k;clear k))
 have j:=r.out.t ((Lr _ _ Lw).t x);refine bW (λu=>(wq.tp u.tape).gb u Lw/\bg 0 u.heap.size u Q [(6,9),(2,3),(0,0)]) ⟨gb g1 (tpg j),bA.kn j⟩ λu2 G=>?_;obtain⟨g2,e4⟩:=G;clear j x r p C g1 bA;refine EL.sp D A z λT=>?_;go_wp2_with (first
  | (go_at_call 80;refine(eT 8 _).mono ?_;rintro e L ⟨V,rfl,d,a,b⟩;have r:=Lu d;have p:=Lu a;have C:=Lu b;obtain⟨I,H,rfl,-,-⟩:=a.cell;clear d a b)
  | (go_at_call 36;refine(AZ 0 _ _ _ (bD 8) 6 [0,1,2] _ ((p.kept (Lr _ _ Lw)).mono (Mw _) (by rw[Mc];omega)) (dS _ [0,1,2] rfl (by decide)) (LC _) (gq (by omega)) (pT 8)).mono ?_;rintro e P ⟨rfl,k⟩;rw[EK];have x:=Lu k;clear k))
 obtain⟨X,hX⟩:∃X,X=P.heap.size:=⟨_,rfl⟩;rw[<- hX];have j:=(r.t ((Lr _ _ Lw).t x)).t (Lr P (.cells #[.int .i64 (-1),.int .i64 2] 26) Lw);refine bW (λu=>(wq.tp u.tape).gb u Lw/\bg 0 u.heap.size u Q [(6,9),(2,3),(0,0)]/\u.heap[X]?=Lq (.cells #[.int .i64 (-1),.int .i64 2] 26 (0,0))) ⟨gb g2 (tpg j),e4.kn j,by rw[hX];exact LS _ _⟩ λu3 G=>?_;obtain⟨g3,d9,x3⟩:=G;clear j x r p C g2 e4 hX;refine EL.seq D A z ?_;refine EL.region D A z ?_;simp only[Mt,LX,Mj,Ms,Mn,Mr,MY];refine EL.list D A z [0,1] [_,_] (rest:=[2,3,4,5,6,7]) rfl λT=>?_;go_wp2_with (go_at_call 80;refine(eT 8 _).mono ?_;rintro e L ⟨V,rfl,d,a,b⟩;have r:=Lu d;have p:=Lu a;have C:=Lu b;obtain⟨I,H,rfl,-,-⟩:=a.cell;clear d a b);obtain⟨B,hB⟩:∃B,B=L.heap.size:=⟨_,rfl⟩;rw[<- hB];have j:=r.out.t (Lr L (.cells #[.int .i64 0,.int .i64 1,.int .i64 2] 3) Lw);have S:(L.alloc (.cells #[.int .i64 0,.int .i64 1,.int .i64 2] 3)).heap[B]?=Lq (.cells #[.int .i64 0,.int .i64 1,.int .i64 2] 3 (0,0)):=by rw[hB];exact LS _ _
 refine bW (λu=>((wq.tp u.tape).gb u Lw/\bg 0 u.heap.size u Q [(6,9),(2,3),(0,0)]/\u.heap[X]?=Lq (.cells #[.int .i64 (-1),.int .i64 2] 26 (0,0)))/\aC 0 u.heap.size u (.slice I (bD 8).length H) (bD 8)/\bh u (.slice I (bD 8).length H)/\ai 0 u.heap.size u (.slice (Lq B) ([0,1,2]:Lx LJ).length 3) [0,1,2]/\bh u (.slice (Lq B) ([0,1,2]:Lx LJ).length 3))
  ⟨⟨gb g3 (tpg j),d9.kn j,bk j x3⟩,(p.kept (Lr _ _ Lw)).mono (Mw _) (by rw[Mc];omega),λad n c e=>by
   have⟨cs,e1,f1,h1,h2⟩:=C.out ad n c e;exact⟨cs,e1,f1,aD h1,h2⟩,ng [0,1,2] S rfl (by decide),λad n c e=>by
   cases e;refine⟨_,_,_,S,λi u hu=>?_⟩;have hm:=NN hu;simp only[Pl,MK,NQ,or_false] at hm;rcases hm with h | h | h<;>exact⟨_,_,h⟩⟩ λu4 G=>?_
 obtain⟨⟨g4,d8,x4⟩,p4,Z,i4,a6⟩:=G;clear j S hB r p C g3 d9 x3;refine EL.enter D A z (fk:=29) (args:=#[.agg #[.slice I (bD 8).length H,.int .i64 6],.slice (Lq B) 3 3]) rfl rfl (λT=>by rw[RZ (f:=29) rfl Tp.x29 (by kernel_rfl) rfl];walk_nrm) (bG 29 (by decide)) ?_;refine Lg D h9 k0 k5 k7 (ws:=[0,1,2]) (l:=[0,1,2]) (by decide) (λc hc hl=>Hf (gq (by omega)) (by simp[iH]) (by decide) (λy hy=>by have:=hc y hy;simp at this;rw[iH];omega) (by simp at hl;omega)) (iS (by decide) (by decide)) (gq (by omega)) (pT 8) p4 Z i4 a6 ?_ _ cs A z λv u hR=>?_
 ·obtain⟨cs,e,g,h0,k6⟩:=h0;exact⟨cs,e,g,blk (w:=wq.tp u4.tape) g4 (by simp) h0,k6⟩
 obtain⟨o,s,rfl,⟨bo,R⟩,M,a8⟩:=hR;rw[EJ] at R;obtain⟨rfl,rfl⟩:=Prod.mk.inj R;have g5:=gb g4 M;have d7:=d8.kn M;have x5:=blk (w:=u4.tp u.tape) M (by simp) x4;clear g4 d8 x4 p4 Z i4 a6 R M;rw[Ow];walk_nrm;refine EL.list D A z [3,4,5,6,7] [_,_,_,_,_] (rest:=[]) rfl λT=>?_;go_wp2;refine EL.tape (wq:=u) ?_ T;refine EL.region_end D A z ?_;refine EL.sp D A z λT=>?_;go_wp2_with (first
  | (go_at_call 80;refine(eT 12 _).mono ?_;rintro e L ⟨V,rfl,d,a,b⟩;have r:=Lu d;have p:=Lu a;have C:=Lu b;obtain⟨I,H,rfl,-,-⟩:=a.cell;clear d a b)
  | (go_at_call 54;refine(Gx _ _ (bD 12) 6 [2,1,0] _ ((p.kept (Lr _ _ Lw)).mono (Mw _) (by rw[Mc];omega)) (dS _ [2,1,0] rfl (by decide)) (gq (by omega)) (Gq 12) 10 (by decide) (Lq (3,[0,1,2])) Ha).mono ?_;rintro e P ⟨k,v7,rfl,a7⟩;have x:=Lu k;have I7:=Lu a7;clear k a7))
 have j:=r.out.t ((Lr _ _ Lw).t x);refine bW (λq=>(wq.tp q.tape).gb q Lw/\bg 0 q.heap.size q Q [(6,9),(2,3),(0,0)]/\q.heap[X]?=Lq (.cells #[.int .i64 (-1),.int .i64 2] 26 (0,0))/\ai 0 q.heap.size q s [1,2]/\ai 0 q.heap.size q v7 [0,1,2]) ⟨gb g5 (tpg j),d7.kn j,bk j x5,a8.kn j,I7⟩ λu6 G=>?_;obtain⟨g6,d6,x6,s6,m6⟩:=G;clear j x r p C I7 g5 d7 x5 a8;refine EL.sp D A z λT=>?_;go_wp2_with (first
  | (go_at_call 80;refine(eT 8 _).mono ?_;rintro e L ⟨V,rfl,d,a,b⟩;have r:=Lu d;have p:=Lu a;have C:=Lu b;obtain⟨I,H,rfl,-,-⟩:=a.cell;clear d a b)
  | (go_at_call 63;refine(KZ _ _ (p.mono (Mw _) (LC _))).mono ?_;rintro e P ⟨v9,rfl,k,F⟩;have x:=Lu k;have O:=Lu F;clear k F))
 have j:=r.out.t x;refine bW (λq=>(wq.tp q.tape).gb q Lw/\bg 0 q.heap.size q Q [(6,9),(2,3),(0,0)]/\q.heap[X]?=Lq (.cells #[.int .i64 (-1),.int .i64 2] 26 (0,0))/\ai 0 q.heap.size q s [1,2]/\ai 0 q.heap.size q v7 [0,1,2]/\RowsIn 0 q.heap.size q v9 [[0,2],[1,3]]) ⟨gb g6 (tpg j),d6.kn j,bk j x6,s6.kn j,m6.kn j,O⟩ λu7 G=>?_;obtain⟨g7,d5,x7,s7,m7,r7⟩:=G;clear j x r p C O g6 d6 x6 s6 m6;refine EL.sp D A z λT=>?_;go_wp2_with (first
  | (go_at_call 80;refine(eT 12 _).mono ?_;rintro e L ⟨V,rfl,d,a,b⟩;have r:=Lu d;have p:=Lu a;have C:=Lu b;obtain⟨I,H,rfl,-,-⟩:=a.cell;clear d a b)
  | (go_at_call 44;refine(wT _ (bD 12) 6 _ (p.mono (Mw _) (LC _)) (gq (by omega))).mono ?_;rintro e P ⟨h8,rfl,k,F⟩;rw[GZ] at F;have x:=Lu k;have O:=Lu F;clear k F))
 have j:=r.out.t x;refine bW (λq=>(wq.tp q.tape).gb q Lw/\bg 0 q.heap.size q Q [(6,9),(2,3),(0,0)]/\q.heap[X]?=Lq (.cells #[.int .i64 (-1),.int .i64 2] 26 (0,0))/\ai 0 q.heap.size q s [1,2]/\ai 0 q.heap.size q v7 [0,1,2]/\RowsIn 0 q.heap.size q v9 [[0,2],[1,3]]/\ai 0 q.heap.size q h8 [0,1,2]) ⟨gb g7 (tpg j),d5.kn j,bk j x7,s7.kn j,m7.kn j,r7.kn j,O⟩ λu8 G=>?_;obtain⟨g8,c9,x8,s8,m8,r8,o8⟩:=G;clear j x r p C O g7 d5 x7 s7 m7 r7;refine EL.sp D A z λT=>?_;have GA:=Lu (Mf (u8.tp T) Lw);have c0:=aa (w:=u8.tp T) x8 (o:=0) rfl;have c1:=aa (w:=u8.tp T) x8 (o:=1) rfl;have x0:=λ(w:Lt)=>Fq (-1) 2 (-1) 2 w;have w9:=rR;go_wp2_with (fail);refine(sj 0 _ 0 _ _ _ [(6,9),(2,3),(0,0)] [(6,9),(2,3),(0,0)] _ (bg.kept (w:=u8.tp T) c9 (Lr (u8.tp T) _ Lw) (by simp)) (BG (LS _ _) rfl)).mono ?_;rintro e wA ⟨rfl,b9⟩;have Y:=(Lr (u8.tp T) _ Lw).t b9;have GA:=Lu Y;have S8:=Lu (s8.kn Y);have M8:=Lu (m8.kn Y);have R8:=Lu (r8.kn Y);have O8:=Lu (o8.kn Y);clear Y b9 c0 c1 s8 m8 r8 o8 c9;rw[decide_eq_true (show([(6,9),(2,3),(0,0)]:Lx (LJ × LJ))=[(6,9),(2,3),(0,0)] from rfl)];go_wp2_with (fail);refine(fZ 0 _ 0 _ _ _ [1,2] [1,2] _ (S8.alloc _) (dS _ [1,2] rfl (by decide))).mono ?_;rintro e wB ⟨rfl,b8⟩;have gB:=(Lr wA _ Lw).t b8;have GB:=Lu (GA.t gB);have M9:=Lu (M8.kn (T:=wA.tape) gB);have O:=Lu (R8.kn (T:=wA.tape) gB);have O9:=Lu (O8.kn (T:=wA.tape) gB);clear gB b8 GA S8 M8 R8 O8;rw[decide_eq_true (show([1,2]:Lx LJ)=[1,2] from rfl)];go_wp2_with (fail);refine(fZ 0 _ 0 _ _ _ [0,1,2] [0,1,2] _ (M9.alloc _) (dS _ [0,1,2] rfl (by decide))).mono ?_;rintro e wC ⟨rfl,b7⟩;have gC:=(Lr wB _ Lw).t b7;have GC:=Lu (GB.t gC);have RC:=Lu (O.kn (T:=wB.tape) gC);have OC:=Lu (O9.kn (T:=wB.tape) gC);clear gC b7 GB M9 O O9;rw[decide_eq_true (show([0,1,2]:Lx LJ)=[0,1,2] from rfl)];go_wp2_with (fail);refine(uL 0 _ 0 _ _ _ [[0,2],[1,3]] [[0,2],[1,3]] _ (RC.kept ((Lr _ _ Lw).t ((Lr _ _ Lw).t (Lr _ _ Lw)))) (zL wC)).mono ?_;rintro e wD ⟨rfl,b6⟩;have gD:=((Lr wC _ Lw).t ((Lr _ _ Lw).t (Lr _ _ Lw))).t b6;have GD:=Lu (GC.t gD);have OD:=Lu (OC.kn (T:=wC.tape) gD);clear gD b6 GC RC OC;rw[decide_eq_true (show([[0,2],[1,3]]:Lx (Lx LJ))=[[0,2],[1,3]] from rfl)];go_wp2_with (fail);refine(fZ 0 _ 0 _ _ _ [0,1,2] [0,1,2] _ (OD.alloc _) (dS _ [0,1,2] rfl (by decide))).mono ?_;rintro e wE ⟨rfl,b0⟩;have gE:=GD.out.t ((Lr wD _ Lw).t b0);have GE:=Lu gE;clear gE b0 GD OD;rw[decide_eq_true (show([0,1,2]:Lx LJ)=[0,1,2] from rfl)];go_wp2;refine bW (λq=>(wq.tp q.tape).gb q Lw) (gb g8 (tpg GE)) λu9 g9=>?_;refine EL.retS D A z ?_;exact HR _ _ u9 ⟨rfl,g9⟩
end
end
section
open Go Go.RowKit Go.Co Go.Sim Go.Conc Go.ConcN
def Hv.yok{n:Ly}{j:Lx Par}{i:LJ}(h:Hv n j i)(l:n<=5):YOk j i:=⟨by have:=h.len;omega,λp k=>by
 have:=h.each p k;have w:=this.a;have v:=this.b;have u:=this.c;have t:=this.d;have s:=this.e;have r:=this.f;have q:=this.g;have o:=this.h;omega,by have:=h.l1;omega,by have:=h.l2;omega⟩
def BL{f:Nh}{fn:Func}{c0:Og}{a:LM LA}(c:Ya.funcs[f]?=Lq fn)(b:fn.body=Lq c0) :MO Ya f a .normal=(Mo f).at ⟨a++MR (fn.ntmps - a.size) LI,[]⟩ [.code c0]:=by
 simp[MO,c,b,Frame.at,Mo]
section
variable[J:JunkSet]{Post:LA->Lt->Prop}{W:Lt}
end
end
section
open Go.RowKit
def Kz(r:LU Ly)(w:Lt)(v:LA)(L:Lx (Lx LJ)):Prop :=
 ∃a c,v=.slice a L.length c/\(0<L.length->∃g,a=Lq ⟨g,0,Lw⟩/\Lq g≠r/\(∃b f,w.heap[g]?=Lq (.cells b 29 f))/\∀(j:Ly) l,L[j]?=Lq l->∃x,w.cell? ⟨g,j,Lw⟩=Lq x/\ai 0 w.heap.size w x l)
def Lm(base:Ly)(r:LU Ly)(w:Lt)(v:LA)(b:Lx (Lx (Lx LJ))):Prop :=
 ∃a:Lx LA,w.ownsRow base 36 1 v b.length a/\∀(j:Ly) x L,a[j]?=Lq x->b[j]?=Lq L->Kz r w x L
def KD(d:Ly)(w:Lt)(v:LA)(b:Lx (Lx (Lx LJ))):Prop :=
 ∃a c,v=.slice a b.length c/\(0<b.length->∃g,a=Lq ⟨g,0,Lw⟩/\g<d/\∀(j:Ly) L,b[j]?=Lq L->∃x,w.cell? ⟨g,j,Lw⟩=Lq x/\KA d w x L)
structure SpI(A:Ly)(U:Lt)(r0:LU Ly)(wi:Lt)(nv mv:LA)(K nx:Lx (Lx LJ)):Prop where
 g:U.grownBy wi r0
 m:FB A wi mv K
 n:FB U.heap.size wi nv nx
 o:∀g,mv.ownBlock=Lq g->r0=Lq g\/U.heap.size<=g
 d:∀g,nv.ownBlock=Lq g->mv.ownBlock≠Lq g
structure SpO(A:Ly)(w:Lt)(n:Ly)(Ls:Lx (Lx (Lx LJ)))(ov mv:LA)(wr:Lt)(dn:Lx (Lx (Lx LJ)))(f:Ly)(K now:Lx (Lx LJ)):Prop where
 ls:Ls=dn++lvl n f K now
 fu:dn.length+f=20
 g:w.grownBy wr Lw
 o:Lm A mv.ownBlock wr ov (dn++[now])
 m:FB A wr mv K
 k:K.length<=600*dn.length+1

end
section
open Go Go.RowKit Go.Co Go.Sim Go.Conc Go.ConcN
def mL:LU (LJ × Lx LJ)->Lx LJ
 | some p=>p.2
 | none=>[]
structure FMnd(ps:Lx Par)(lim:LJ)(l:Lx LJ)(yb:LU MN)(yc:Ly)(lb:LU MN)(lc X:Ly)(gb_:LU MN)(gc:Ly)(fb:LU MN)(fc VB vc:Ly)(o:LU (LJ × Lx LJ))(fd:LU (Lx LJ))(Ls:Lx (Lx (Lx LJ)))(q:Lt):Prop where
 x:q.heap[X]?=Lq (.cells #[.slice yb ps.length yc,lim] 24 (0,0))
 p:aC 0 q.heap.size q (.slice yb ps.length yc) ps
 i:ai 0 q.heap.size q (.slice lb l.length lc) l
 m:ai 0 q.heap.size q (.slice gb_ (mL o).length gc) (mL o)
 f:ai 0 q.heap.size q (.slice fb (fd.getD []).length fc) (fd.getD [])
 v:KD q.heap.size q (.slice (Lq VB) Ls.length vc) Ls
def Lk(N:Ly)(z:LM LA)(h:z.size=N):∃t:Ly->LA,(∀(j:Ly) (v:LA),z[j]?=Lq v->t j=v)/\z=((Mr N).map t).toArray:=by
 have e:=jI z;rw[h] at e;exact⟨λj=>z[j]?.getD LI,λj v a=>by simp[a],e⟩
section
variable[J:JunkSet]{Post:LA->Lt->Prop}{W:Lt}
end
end
section
open Go.RowKit
structure Lo(ps qs:Lx Par):Prop where
 len:qs.length=ps.length
 tall:∀(i:Ly) p q,ps[i]?=Lq p->qs[i]?=Lq q->q.tall=p.tall
 bears:∀(i:Ly) p q,ps[i]?=Lq p->qs[i]?=Lq q->p.bears<=q.bears
 mx:∀(i:Ly) p q,ps[i]?=Lq p->qs[i]?=Lq q->q.mx<=p.mx
def vj{c:Lx Par}{a:LJ}(t:c.length<=5):∀k,k<=c.length->(dG c a k=[]\/∃m q,m<=k/\q∈dI (aJ c.length) m/\dG c a k∈gP c a q/\(dG c a k).length=m) /\∀m q,1<=m->m<=k->q∈dI (aJ c.length) m->gP c a q≠[]->m<=(dG c a k).length
 | 0,_=>⟨.inl rfl,λm q A z=>by omega⟩
 | k+1,O=>by
  obtain⟨A,z⟩:=vj t k (by omega);have y:=(rN c a t k (by omega)).2;rw[rO];have l:∀(L:Lx (Lx LJ)) (b:Lx LJ),(∀q∈L,q∈dI (aJ c.length) (k+1))->b.length<=k+1 ->
    (L.foldl (eP c a (k+1)) b=b\/∃q∈L,L.foldl (eP c a (k+1)) b∈gP c a q/\(L.foldl (eP c a (k+1)) b).length=k+1)/\b.length<=(L.foldl (eP c a (k+1)) b).length/\(∀q∈L,gP c a q≠[]->k+1<=(L.foldl (eP c a (k+1)) b).length):=by
   intro L;induction L with
   | nil=>exact λb _ _=>⟨.inl rfl,LC _,λq d=>by cases d⟩
   | cons q L G=>
    intro b d P;rw[OI];obtain⟨R,j,Q⟩:=mT t O (d q (by simp));have s:∀p∈gP c a q,p.length=k+1:=λp i=>by
     rw[R] at i;exact Q p (Oa.1 i).1
    have n:(eP c a (k+1) b q=b\/(eP c a (k+1) b q∈gP c a q/\(eP c a (k+1) b q).length=k+1))/\(gP c a q≠[]->(eP c a (k+1) b q).length=k+1)/\b.length<=(eP c a (k+1) b q).length:=by
     unfold eP;cases hF:gP c a q with
     | nil=>exact⟨.inl rfl,λh=>absurd rfl h,LC _⟩
     | cons p T=>
      have i:=s p (by rw[hF];simp);simp only;split
      ·exact⟨.inr ⟨by simp,i⟩,λ_=>i,by omega⟩
      ·rename_i M
       have:¬ b.length<k+1:=λh=>M (.inl h);exact⟨.inl rfl,λ_=>by omega,LC _⟩
    obtain⟨w,B,U⟩:=n;have o:(eP c a (k+1) b q).length<=k+1:=by
     rcases w with e | ⟨_,e⟩
     ·rw[e];exact P
     ·omega
    obtain⟨I,V,H⟩:=G _ (λx g=>d x (by simp[g])) o;refine⟨?_,by omega,λx g f=>?_⟩
    ·rcases I with e | ⟨x,g,v⟩
     ·rw[e];rcases w with j | u
      ·exact .inl j
      ·exact .inr ⟨q,by simp,u⟩
     ·exact .inr ⟨x,by simp[g],v⟩
    ·rcases MK.1 g with rfl | g
     ·have:=B f;omega
     ·exact H x g f
  obtain⟨F,D,C⟩:=l (dI (aJ c.length) (k+1)) (dG c a k) (λq d=>d) (by omega);refine⟨?_,λm q hm N d f=>?_⟩
  ·rcases F with e | ⟨q,d,v,u⟩
   ·rcases A with j | ⟨m,q,Y,S,X,W⟩
    ·left;show lvR _ _ _ _=_;unfold lvR;rw[e,j]
    ·right;refine⟨m,q,by omega,S,?_,?_⟩<;>(unfold lvR;rw[e];assumption)
   ·exact .inr ⟨k+1,q,LC _,d,v,u⟩
  ·by_cases r:m=k+1
   ·subst r;exact C q d f
   ·have:=z m q hm (by omega) d f;exact LN this D

def ib(p:Par)(d:Ly)(v:LJ):Par:=⟨if d=0 then v else p.mn,if d=1 then v else p.mx,if d=2 then v else p.bears,if d=3 then v else p.tall⟩
def aC.put{C r B o c k d:Ly}{w:Lt}{g:Lx Par}{p:Par}{f:LM LA}(h:aC C r w (.slice (Lq ⟨B,o,Lw⟩) g.length c) g)(D:w.heap[B]?=Lq (.cells f 28 (0,0)))(F:g[k]?=Lq p)(W:d<4)(v:LJ) :aC C r (w.setCell ⟨B,o+(k*4+d),Lw⟩ (.int .i64 v)) (.slice (Lq ⟨B,o,Lw⟩) g.length c) (g.set k (ib p d v)):=by
 have l:=(Md.1 F).1;obtain⟨base,Q,e,L,I⟩:=h;cases e;have⟨Z,V,Y,X,P,O,N,H,M⟩:=I (by rintro rfl;simp at l);cases P;rw[D] at H;cases H;refine⟨_,_,by rw[OW],by rw[OW];exact L,λ_=>⟨_,_,_,(0,0),rfl,O,N,ar D,λi r=>?_⟩⟩;rw[OW] at r;have⟨q,t,A,z,y,x⟩:=M i r;have b:∀j v,f[j]?=Lq v->j<f.size:=λj v h=>(Lz.1 h).1;have U:=b _ _ A;have T:=b _ _ z;have S:=b _ _ y;have R:=b _ _ x;by_cases n:i=k
 ·subst n;rw[F] at t;cases t;have a:∀j u,f[o+(i*4+j)]?=Lq (.int .i64 u)->(f.setIfInBounds (o+(i*4+d)) (.int .i64 v))[o+(i*4+j)]?=Lq (.int .i64 (if d=j then v else u)):=λj u G=>by
   rw[My];by_cases s:d=j
   ·subst s;rw[if_pos rfl,if_pos (b _ _ G),if_pos rfl]
   ·rw[if_neg (by omega),if_neg s];exact G
  exact⟨ib p d v,by rw[TV];simp[l],a 0 _ A,a 1 _ z,a 2 _ y,a 3 _ x⟩
 ·refine⟨q,by rw[TV];simp[Ne.symm n,t],?_⟩;simp only[My];rw[if_neg (by omega),if_neg (by omega),if_neg (by omega),if_neg (by omega)];exact⟨A,z,y,x⟩
def Ll(b c:Lx Par)(a:MC)(l:Lx LJ):Prop :=
 (standsV b l≠1\/standsV c l=standsV b l)/\(standsV b l≠3\/a=LH\/standsV c l≠2)/\(standsV b l≠2\/a=LG\/standsV c l=standsV b l)
structure StrL(ps qs:Lx Par)(lim:LJ)(l:Lx LJ)(bears:MC):Prop where
 v:Ll ps qs bears l
 p2:POk qs lim l
 c1:bX ps lim=0
 c2:bX qs lim=0
 n:jK ps lim<=jK qs lim
 m:(mX ps lim).length<=(mX qs lim).length
 e:jc qs lim=jc ps lim
 e2:jc ps lim=0\/jc ps lim=11
 f:(rq qs lim).length<=(rq ps lim).length
end
section
open Go Go.RowKit Go.Co Go.Sim Go.Conc Go.ConcN
def uN{a W:Lt}{r:LU Ly}(h:a.gb W r)(b:LZ)(c:LM LA):a.gb (W.alloc (.cells c b)) r/\(W.alloc (.cells c b)).heap[W.heap.size]?=Lq (.cells c b (0,0))/\a.heap.size<=W.heap.size:=⟨h.t (Lr _ _ r),LS _ _,h.size⟩
def aC.one{i j:Ly}{w:Lt}{b:LU MN}{n c k:Ly}{d:Lx Par}{p:Par}(h:aC i j w (.slice b n c) d)(g:d[k]?=Lq p):∃B o,b=Lq ⟨B,o,Lw⟩/\w.cell? ⟨B,o+k*4,Lw⟩=Lq (.int .i64 p.mn)/\w.cell? ⟨B,o+k*4+1,Lw⟩=Lq (.int .i64 p.mx)/\w.cell? ⟨B,o+k*4+2,Lw⟩=Lq (.int .i64 p.bears)/\w.cell? ⟨B,o+k*4+3,Lw⟩=Lq (.int .i64 p.tall):=by
 have a:=(Md.1 g).1;obtain⟨z,y,l,-,r⟩:=h.cell;cases l;obtain⟨B,o,rfl,-,-,-,s⟩:=r (by intro e;rw[e] at a;simp at a);have⟨q,f,x,v,u,t⟩:=s k a;rw[g] at f;cases f;exact⟨B,o,rfl,x,v,u,t⟩
def CC{P:LV}{c:Og}{Q:SS->ON->Lt->Prop}{z:LM LA}{w:Lt}(f:Lx Ly)(F:LM LA->Lt->Prop)(l:c.wp P (vu λn d=>∃b,n=⟨b,[]⟩/\b.size=z.size/\Kp f z b/\F b d) ⟨z,[]⟩ w)(k:∀b d,b.size=z.size->Kp f z b->F b d->Q .normal ⟨b,[]⟩ d):c.wp P Q ⟨z,[]⟩ w :=
 Code.wp_mono (λe a w h=>by
  cases e<;>first | exact h.elim | (obtain⟨b,rfl,j,i,g⟩:=h;exact k b w j i g)) l
end
end Go.Proofs.YtidgnkmjgioapaaGreat
