/-
  Part 5 of the proof. PileMend answers true for every list and keeps it. No conditions.
-/
import Derived.Test.YtidgnkmjgioapaaGreatJ1
import Derived.Conc.AtomicLaws2
import Derived.StillTailTactics
set_option maxRecDepth 100000
set_option maxHeartbeats 8000000
set_option linter.all false
open And renaming intro->qhb
open Array renaming eq_empty_of_size_eq_zero->qlw,getD_eq_getD_getElem?->qii,getElem?_append->qkg,getElem?_append_left->qmm,getElem?_eq_getElem->qhg,getElem?_eq_some_iff->qgu,getElem?_push->ql0,getElem?_setIfInBounds->qhB,getElem?_setIfInBounds_ne->qi3,getElem_append->qpe,mem_append->qk8,mem_of_getElem?->qiC,range->qkA,replicate->qhC,replicate_succ->qhr,replicate_zero->qhs
open Bool renaming and_eq_true->qh9,and_eq_true_iff->qpd,false_eq_true->qho,not_eq_true'->qjz,not_false->qmh,true_and->qm9
open Classical renaming byContradiction->qin
open Go renaming Addr->qi2,Calls->qhx,Code->qj9,Deferred->qiE,Event->qim,Frame->qgH,FuncId->qi8,block_lt_of_cell->qpn,Goroutine->qgy,Item->qkz,MapEntry->qki,Oper->qiu,Operand->qhF,Program->qgG,Question->qj1,TypeId->qh5,TypeInfo->qli,Value->qgx,World->qgt,bodyPost_ret->qjD,callDeferred->qj0,doReturn->qj4,execOp->qk5,goexitEntry->qpc,grownBy_putObj'->qko,grownCap->qkF,heap_alloc_new->qgC,heap_setCell_other->qkp,heap_setCell_same->qoh,info_parts->qjy,maxLen->qky,results->qk1,stepG->qi4,tryRecover->qhi,undef->qgz,unwind->qle,yielded->qjn
open Go.Builtin renaming append_->qlf,clear_->qn6,min_->qo1,zeroCells->qjd
open Go.Calls renaming quiet_of_same->qiG
open Go.Conc renaming base->qhf,baseD->qip,dcall->qr2,Goes->qmc,QuitsD->qo8,events_results_tmp->qmG,run_call_body->qm7,stepG_add_atomic->ql7,stepG_block->qn3,stepG_load_atomic->qlk,stepG_region_end->qgA,stepG_seq->qh4,stepG_skip->qil
open Go.Conc.Goes renaming stop->qj5
open Go.ConcN renaming WgLive->qjB
open Go.ConcR renaming DC0->qna
open Go.Frame renaming catches->qok,enter->qhy,finish_at->qjf
open Go.GStep renaming after->qi9
open Go.Instr renaming makeMap->qoj,mapUpdate->qiz
open Go.IntKind renaming wrap_i64->qmu
open Go.IntWalk renaming i64_in->qhm
open Go.Lib renaming hid->qgr
open Go.MemAct renaming ofEvent->qiq,touch?->qjb
open Go.Proofs.Tryz renaming f136->qnk,f139->ql9,f141->qnn,f142->qn4,f143->qo3,f54->qmx,f82->qpa,f85->qkw,func139->qoG,func141->qqb,func142->qne,prog->qh3,results54->qqC
open Go.Region renaming binds->qhH,ready->qh8,wanted->qhD
open Go.Result renaming andThen->qml,andThen_ok->qix
open Go.RowKit renaming intOf->qia
open Go.Sem renaming run->qie,run_bind->qiw,run_pure->qnc
open Go.Value renaming int->qhe,oneCell'->qjh,ownBlock->qhp,slice->qhw
open Go.World renaming cell?->qhu,frozen?->qkr,grownBy_alloc->qgs,news_of_block->qit,putObj_heap_same->qlH,setCell->qja,size_alloc->qgF
open Go.World.grownBy renaming refl->qh6
open List renaming all_eq_true->qhE,append_assoc->qjp,cons_append->qha,count_cons->qp2,drop_eq_getElem_cons->qj7,drop_length->qno,drop_succ_cons->qhA,drop_zero->qio,eq_nil_of_length_eq_zero->qhv,ext_getElem?->qlm,filter_append->qm0,find?_eq_none->qlG,foldl_cons->qje,getElem?_append_left->qhh,getElem?_append_right->qid,getElem?_eq_getElem->qgB,getElem?_eq_none->qi5,getElem?_eq_some_iff->qh0,getElem?_map->qis,getElem?_range->qlt,getElem?_take->qlF,getElem?_take_of_lt->qjc,getElem_inj->qqp,getElem_mem->qly,length_append->qih,length_cons->qh1,length_erase_of_mem->qmz,length_filter_le->qji,length_map->qk0,length_nil->qh7,length_pos_iff->qkf,length_take->qk3,map_append->qiH,map_cons->qjr,map_nil->qln,mem_append->qiF,mem_cons->qif,mem_filter->qm3,mem_flatMap->qnm,mem_map->qkn,mem_map_of_mem->qo0,mem_of_getElem?->qhc,mem_range->qj3,mem_singleton->qib,mem_toArray->qka,nil_append->qhn,not_mem_nil->qiD,pairwise_append->qmo,perm_append_comm->qmd,perm_cons_erase->qpf,push_toArray->qi1,range->qhl,setIfInBounds_toArray->qod,set_append_left->qnz,size_toArray->qhk,take_add_one->qi7,take_length->qiy
open List.range renaming loop->qi0
open Nat renaming le_of_eq->qkl,le_refl->qgw,le_trans->qgE,lt_of_lt_of_le->qh2,lt_or_ge->qiA,reduceAdd->qhj,reduceSub->qir,zero_add->qhd,zero_le->qhz
open Option renaming bind_eq_some_iff->qi6,getD_some->qgD,map_some->qij,mem_toList->qqc
open Option.some renaming injEq->qht
namespace Go.Proofs.YtidgnkmjgioapaaGreat
section
open Go Go.RowKit Go.Co
theorem qb6{w w':qgt}(h:w.grownBy w' none)(r:Option Nat):w.grownBy w' r:=⟨h.os,h.tape,h.output,h.size,λk hk _=>h.block k hk (by simp)⟩
def MJ(ps:List Par)(lim:Int)(w0:qgt)(pb:Option qi2)(n pc f0:Nat)(pv:qgx)(o:Option (Int × List Int))(a:Act)(w:qgt):Prop :=
 ∃(z:Array qgx) (Yb M st f:Nat) (K now:List (List Int)) (nb:Option qi2) (nc:Nat),a=⟨z,[]⟩/\z.size=123/\z[1]?=some (.slice pb n pc)/\z[7]?=some (.pointer (some ⟨Yb,0,none⟩))/\z[9]?=some (.map (some M))/\z[10]?=some (.slice nb now.length nc)/\z[11]?=some (.slice none 0 0)/\z[12]?=some (.int .i64 st) /\
  st+f=f0/\Zw ps lim n f K now st=some o/\zS w M K/\w0.heap.size<=M/\jp w (.slice nb now.length nc) now/\w0.grownBy w none/\w.heap[Yb]?=some (.cells #[pv,.int .i64 lim] 91 (0,0))/\qw 0 w0.heap.size w pv ps
def qe7(o:Option (Int × List Int))(z:Array qgx)(w:qgt):Prop :=
 match o with
 | some (st,r)=>∃v,z[4]?=some (.int .i64 st)/\z[5]?=some v/\z[6]?=some (.int .i64 0)/\qe 0 w.heap.size w v r
 | none=>z[4]?=some (.int .i64 0)/\z[5]?=some (.slice none 0 0)/\z[6]?=some (.int .i64 11)
theorem Kz{w:qgt}{M:Nat}{es:Array qki}{cl:Nat}(ty:qh5)(h:w.heap[M]?=some (.map es cl)):(qn6 #[120] ty #[.map (some M)]).run Ya w=.ok (.tuple #[]) (w.putObj M (.map #[] cl)):=by
 simp[qn6,qiw,run_underlying Tp.und120,getObj,setObj,qie,h,qml,World.putObj]
def qco(a:Act):Int:=qia (a.tmps.getD 12 qgz)
theorem qdE(ps:List Par)(lim:Int)(w0 w:qgt)(pb:Option qi2)(n pc f0:Nat)(pv:qgx)(o:Option (Int × List Int))(a:Act)(Q:Exit->Act->qgt->Prop)(hJ:MJ ps lim w0 pb n pc f0 pv o a w)(hok:YOk ps lim)(hn:n<=5)(hf:f0<=1000)(hQ:∀(z':Array qgx) w',z'.size=123->qe7 o z' w'->w0.grownBy w' none->Q .ret ⟨z',[]⟩ w') :mX8.wp Ya (Exit.jump 0 (λa' w'=>MJ ps lim w0 pb n pc f0 pv o a' w'/\(f0 - qco a').toNat<(f0 - qco a).toNat) Q) a w:=by
 obtain⟨z,Yb,M,st,f,K,now,nb,nc,rfl,hz,h1,h7,h9,k0,h8,g9,hst,hm,hM,a6,hN,hG,hY,hP⟩:=hJ;obtain⟨t,ht,rfl⟩:=Za z hz;have e1:=ht 1 _ h1;have e7:=ht 7 _ h7;have e9:=ht 9 _ h9;have k8:=ht 10 _ k0;have k6:=ht 11 _ h8;have k5:=ht 12 _ g9;clear ht h1 h7 h9 k0 h8 g9 hz;obtain⟨yb,yc,rfl,n4,-⟩:=hP.cell;rw[e1,e7,e9,k8,k6,k5];clear e1 e7 e9 k8 k6 k5;cases f with
 | zero=>cases hm
 | succ f=>
  unfold Zw at hm;split at hm
  ·rename_i hall
   obtain⟨hall,hl⟩:=hall;have a7:=qgr hall;have HQ:=qgr hQ;have d5:=qgr hm;have HM:=qgr hM;have HN:=qgr hN;have HG:=qgr hG;have HY:=qgr hY;have HP:=qgr hP;have l8:M<w.heap.size:=by obtain⟨es,cl,e,-⟩:=hM;exact qA e
   clear hQ hm hM hN hG hY hP hall;simp only[mX8,qmx,qgD,sqA,sqB,inn];have n7:∀(a:qi2) (fn:Fn) (x y:Array qgx) (m:Mode) (w:qgt),(store a (.func fn x y) m).run Ya w=stored Ya w a (.func fn x y) m:=λa fn x y m w=>run_store _ w a _ m rfl;go_upto_region 10 with(fail);obtain⟨Lb,c9⟩:∃Lb,Lb=w.heap.size:=⟨_,rfl⟩;rw[<- c9];have d6:=qgs w (.cells #[.func (.func 99) #[] #[],.slice none 0 0,.bool false] 108) none;have p3:=qgr d6;refine vS (λu=>(w.grownBy u none/\u.heap[Lb]?=some (.cells #[.func (.func 99) #[] #[],.slice none 0 0,.bool false] 108 (0,0)))) ⟨d6,by rw[c9];exact qgC _ _⟩ (λu hF=>?_);obtain⟨g1,b1⟩:=hF;have G1:=qgr g1;have B1:=qgr b1;have m5:=qgr c9;have n9:M<Lb:=by omega
   have e5:w0.heap.size<=Lb:=by have:=HG.out.size;omega
   clear g1 b1 d6 c9;go_upto_region 17 with(fail);refine Code.wp_mono (jZ (R:=λa u2=>∃(z':Array qgx) (bv:qgx),a=⟨z',[]⟩/\z'.size=123/\z'[1]?=some (.slice pb n pc)/\z'[7]?=some (.pointer (some ⟨Yb,0,none⟩))/\z'[9]?=some (.map (some M))/\z'[10]?=some (.slice nb now.length nc)/\z'[11]?=some (.slice none 0 0)/\z'[12]?=some (.int .i64 st)/\z'[13]?=some (.pointer (some ⟨Lb,0,none⟩)) /\
    u.grownBy u2 (some Lb)/\u2.heap[Lb]?=some (.cells #[.func (.func 99) #[] #[],bv,.bool (jy ps now).1] 108 (0,0))/\qe 0 u2.heap.size u2 bv (jy ps now).2) ?_) ?_
   rotate_left
   ·refine xu (c':=mLA) (by simp only[mLA,q3p,mX8,qmx,qgD,sqA,sqB,inn]) ?_;refine qfD _ rfl u _ Yb Lb ps lim (.slice yb ps.length yc) now nb nc rfl rfl rfl rfl rfl rfl (blk G1.out (by simp) HY.out) ((HP.out.kept G1.out (by simp)).mono (qgw _) e5) B1.out hok (HN.out.keptM (M:=M) (qb6 G1.out _) (λcs fr=>HM.out.not _ _ _)) a7.out hl ?_;intro z' bv w' b1 b2 b3 b4 b5;exact⟨z',bv,rfl,b1,b2 1 (by decide),b2 7 (by decide),b2 9 (by decide),b2 10 (by decide),b2 11 (by decide),b2 12 (by decide),b2 13 (by decide),b3,b4,b5⟩
   ·rintro a u2 ⟨z',bv,rfl,b9,k1,k7,k9,d8,b0,a9,d7,f1,f2,f3⟩;obtain⟨t2,ht2,rfl⟩:=Za z' b9;have j1:=ht2 1 _ k1;have j7:=ht2 7 _ k7;have j9:=ht2 9 _ k9;have e4:=ht2 10 _ d8;have b8:=ht2 11 _ b0;have b7:=ht2 12 _ a9;have d9:=ht2 13 _ d7;clear ht2 k1 k7 k9 d8 b0 a9 d7;rw[j1,j7,j9,e4,b8,b7,d9];clear j1 j7 j9 e4 b8 b7 d9 b9;obtain⟨bb,bc,rfl,-,-⟩:=f3.cell;have e8:w.grownBy u2 none:=xE G1.out f1 (by rw[m5.out];exact qgw _);have c1:=q9 f2 (o:=1) rfl;have c2:=q9 f2 (o:=2) rfl;have F3:=qgr f3;have c8:=qgr e8;have l7:M<u2.heap.size:=by have:=e8.size;omega
    have n8:=qA f2;clear f1 f2 f3;cases hb:(jy ps now).1 with
    | true=>
     rw[if_pos hb] at d5;rw[hb] at c2;clear hb;go_wp2_with (fail);go_quiet (fail);go_wp2;simp only[Exit.jump];have hm:=d5.out;cases hm;exact HQ.out _ _ rfl ⟨_,rfl,rfl,rfl,(F3.out.kept (qk _ _ none) (by simp)).mono (qgw _) (qgw _)⟩ ((HG.out.trans c8.out).trans (qk _ _ none))
    | false=>
     rw[if_neg (by rw[hb];simp)] at d5;rw[hb] at c2;clear hb;have g8:zS u2 M K:=HM.out.kept (c8.out.block M l8 (by simp));have g7:jp u2 (.slice nb now.length nc) now:=HN.out.keptM (M:=M) (qb6 c8.out _) (λcs fr=>HM.out.not _ _ _);have m3:=qgr g8;have l6:=qgr g7;clear g8 g7;go_upto_region 33 with(fail);refine Code.wp_mono (jZ (R:=λa u3=>∃(z':Array qgx) (nv:qgx),a=⟨z',[]⟩/\z'.size=123/\z'[1]?=some (.slice pb n pc)/\z'[7]?=some (.pointer (some ⟨Yb,0,none⟩))/\z'[9]?=some (.map (some M))/\z'[11]?=some nv/\z'[12]?=some (.int .i64 st) /\
      u2.grownBy u3 (some M)/\zS u3 M (je (n - 1) K now).1/\u3.ownsRow u2.heap.size 118 5 nv (je (n - 1) K now).2.length (kC (je (n - 1) K now).2)) ?_) ?_
     rotate_left
     ·refine xu (c':=mLB) (by simp only[mLB,qav,q3p,mX8,qmx,qgD,sqA,sqB,inn]) ?_;refine qfC _ rfl u2 _ n (n - 1) M st now K pb nb pc nc rfl rfl rfl rfl rfl rfl rfl hn rfl l7 l6.out (λs hs=>(xX (qhE.1 a7.out s hs)).1) hl m3.out (by omega) ?_;intro z' nv w' b1 b2 b3 b4 b5 b6;exact⟨z',nv,rfl,b1,b3 1 (by decide),b3 7 (by decide),b3 9 (by decide),b2,b3 12 (by decide),b4,b5,b6⟩
     ·rintro a u3 ⟨z',nv,rfl,b9,k1,k7,k9,b0,a9,f1,f2,f3⟩;obtain⟨t3,a8,rfl⟩:=Za z' b9;have j1:=a8 1 _ k1;have j7:=a8 7 _ k7;have j9:=a8 9 _ k9;have b8:=a8 11 _ b0;have b7:=a8 12 _ a9;clear a8 k1 k7 k9 b0 a9;rw[j1,j7,j9,b8,b7];clear j1 j7 j9 b8 b7 b9 c1 c2;obtain⟨n3,m7,m9,rfl⟩:=zK f3;have F1:=qgr f1;have F2:=qgr f2;have hS:=jp.own f3 (J4 λs hs=>(xX (qhE.1 a7.out s hs)).1);obtain⟨n2,m8,e3,-⟩:=hS;cases e3;have HS:=qgr (jp.own f3 (J4 λs hs=>(xX (qhE.1 a7.out s hs)).1));have hm:=d5.out;rw[q1D] at hm;have n6:IntKind.i64.wrap ((st:Int)+1)=(st:Int)+1:=qhm _ (by omega);have g5:w0.grownBy u3 none:=xE (HG.out.trans c8.out) F1.out a6;have g6:w.grownBy u3 (some M):=(qb6 c8.out _).trans F1.out;have l4:=qgr g5;have l5:=qgr g6;clear f1 f2 f3 g5 g6;split at hm
      ·rename_i hle
       split at hm
       ·rename_i c3
        cases hm;rw[c3];obtain⟨es,cl,e6,-⟩:=F2.out;have hcl:=Kz 0 e6;clear e6;go_wp2;simp only[Exit.jump];exact HQ.out _ _ rfl ⟨rfl,rfl,rfl⟩ (xE l4.out (qko _ _ _) a6)
       ·rename_i c3
        have m6:(0:Int)<((je (n - 1) K now).2.length:Int):=by
         have:=qkf.2 c3;omega
        have m4:=qgr hm;clear hm;go_wp2;go_step3;have l9:Yb≠M:=λe=>by rw[e] at HY;exact HM.out.not _ _ _ HY.out
        refine⟨rfl,⟨_,Yb,M,st+1,f,_,_,_,_,rfl,rfl,rfl,rfl,rfl,rfl,rfl,by simp,by omega,by simpa using m4.out,F2.out,a6,HS.out,l4.out,blk l5.out (by simpa using l9) HY.out,HP.out.kept l5.out (λR e=>by cases e;exact .inr a6)⟩,?_⟩;simp[qco,qia];omega
      ·cases hm
  ·cases hm
def qe8(w0:qgt)(o:Option (Int × List Int))(e:Ending)(w':qgt):Prop :=
 w0.grownBy w' none/\match o with
 | some (st,r)=>∃v,e=.returned (.tuple #[.int .i64 st,v,.int .i64 0])/\qe 0 w'.heap.size w' v r
 | none=>e=.returned (.tuple #[.int .i64 0,.slice none 0 0,.int .i64 11])
theorem q8e{l:Nat}{J J':Act->qgt->Prop}{Q:Exit->Act->qgt->Prop}(h:∀a w,J a w->J' a w):∀e a w,Exit.jump l J Q e a w->Exit.jump l J' Q e a w:=by
 intro e a w hh;cases e with
 | goto l'=>exact⟨hh.1,h _ _ hh.2⟩
 | _=>exact hh
theorem q3n{w w':qgt}{o:Option (Int × List Int)}{z:Array qgx}(hz:z.size=123)(hR:qe7 o z w')(hg:w.grownBy w' none):bodyPost Ya qmx (λe w'=>qe8 w o e w') .ret ⟨z,[]⟩ w':=by
 obtain⟨t,ht,rfl⟩:=Za z hz;cases o with
 | none=>
  obtain⟨h4,h5,h6⟩:=hR;have e4:=ht 4 _ h4;have e5:=ht 5 _ h5;have e6:=ht 6 _ h6;rw[e4,e5,e6];exact qjD (v:=.tuple #[.int .i64 0,.slice none 0 0,.int .i64 11]) (by simp[qk1,qqC,go_sem]) rfl ⟨hg,rfl⟩
 | some p=>
  obtain⟨st,r⟩:=p;obtain⟨v,h4,h5,h6,hi⟩:=hR;have e4:=ht 4 _ h4;have e5:=ht 5 _ h5;have e6:=ht 6 _ h6;rw[e4,e5,e6];exact qjD (v:=.tuple #[.int .i64 st,v,.int .i64 0]) (by simp[qk1,qqC,go_sem]) rfl ⟨hg,v,rfl,hi⟩
theorem q6z(pv qv:qgx)(ps:List Par)(lim:Int)(l:List Int)(w:qgt)(hP:qw 0 w.heap.size w pv ps)(hI:qe 0 w.heap.size w qv l)(hok:YOk ps lim)(hp:POk ps lim l)(f0:Nat)(hf:f0<=1000)(o:Option (Int × List Int))(hm:Zw ps lim l.length f0 [qT l] [qT l] 0=some o) :qhx Ya 54 #[.agg #[pv,.int .i64 lim],qv] w λe w'=>qe8 w o e w':=by
 obtain⟨yb,yc,rfl,k8,-⟩:=hP.cell;obtain⟨pb,pc,rfl,-,-⟩:=hI.cell;have l5:=hp.len;have HP:=qgr hP;have HI:=qgr hI;have d8:=qgr hok;have k0:=qgr hp;have HM:=qgr hm;clear hP hI hok hp hm;go_enter Tp.x54,Tryz.ntmps54;have a6:l.length<=5:=by
  cases f0 with
  | zero=>cases HM.out
  | succ f=>
   have h:=HM.out;unfold Zw at h;split at h
   ·rename_i h1
    have:=(xX (qhE.1 h1.1 (qT l) (by simp))).1;unfold qT at this;rw[qih] at this;omega
   ·cases h
 go_wp2;refine wp_scope_jumps 0 (MJ ps lim w pb l.length pc f0 (.slice yb ps.length yc) o) (λa _=>(f0 - qco a).toNat) rfl ?_ ?_
 ·go_upto_region 4 with(first
   | (go_at_call 81;go_must (refine(x9 0 w.heap.size _ _ ps lim l _ (HP.out.kept (qgs _ _ none) (by simp)) (HI.out.kept (qgs _ _ none) (by simp)) (by simp) d8.out k0.out).mono ?_);rintro e w2 ⟨rfl,g7⟩;have g9:=qgr ((qgs w (.cells #[.slice yb ps.length yc,.int .i64 lim] 24) none).trans g7);clear g7))
  obtain⟨Yb,c9⟩:∃Yb,Yb=w2.heap.size:=⟨_,rfl⟩;rw[<- c9];refine vS (λu=>w.grownBy u none/\u.heap[Yb]?=some (.cells #[.slice yb ps.length yc,.int .i64 lim] 91 (0,0))) ⟨g9.out.trans (qgs _ _ none),by rw[c9];exact qgC _ _⟩ (λu hF=>?_);obtain⟨g3,y3⟩:=hF;have G3:=qgr g3;have Y3:=qgr y3;clear g3 y3 c9 g9;obtain⟨M,a8⟩:∃M,M=u.heap.size:=⟨_,rfl⟩;have b0:zS (u.alloc (.map #[] 0)) M []:=zS.nil (by rw[a8];exact qgC u (.map #[] 0));have b6:=qgr b0;have a7:u.grownBy (u.alloc (.map #[] 0)) none:=qgs _ _ none;have k6:=qgr a7;have d5:M<(u.alloc (.map #[] 0)).heap.size:=by rw[a8,qgF];omega
  have h5:=vT a6;obtain⟨x0,x1,x2,x3,x4,e4⟩:=q8b h5;have d7:=qgr e4;have h8:(qoj 120 none).run Ya u=.ok (.map (some M)) (u.alloc (.map #[] 0)):=by rw[a8];rfl
  clear b0 h5 e4;go_upto_region 5 with(first
   | (go_at_call 112;refine(Jd 0 _ _ l _ ((HI.out.kept (G3.out.trans a7) (by simp)).mono (qgw _) (G3.out.trans a7).size) a6).mono ?_;rintro e w5 ⟨rfl,c3⟩;have d9:=qgr c3;have e7:=b6.out.kept (c3.block M d5 (by simp));obtain⟨ob,l4,b8,e9⟩:=e7.add (qT l) (vT a6) (by simp) 0;have k5:=qgr e9;clear e9 c3 e7;rw[d7.out] at b8 ⊢;have e6:(qiz 120 (.map (some u.heap.size)) (.agg #[.int .i64 x0,.int .i64 x1,.int .i64 x2,.int .i64 x3,.int .i64 x4]) (.int .i64 0)).run Ya w5=.ok () (w5.putObj M ob):=a8 ▸ b8;clear b8;unfold A5))
  rw[<- a8];have g5:M<w5.heap.size:=qh2 d5 d9.out.size;have e5:w.heap.size<=M:=by have:=G3.out.size;omega
  refine vS (λv=>w.grownBy v none/\v.heap[Yb]?=some (.cells #[.slice yb ps.length yc,.int .i64 lim] 91 (0,0))/\zS v M [qT l]) ⟨xE (G3.out.trans (a7.trans d9.out)) (qko _ _ _) e5,blk (qko _ _ _) (λe=>by cases e;have:=qA Y3.out;omega) (blk (a7.trans d9.out) (by simp) Y3.out),k5.out _ (qlH g5)⟩ (λu6 hF=>?_);obtain⟨g6,y6,m6⟩:=hF;have G6:=qgr g6;have Y6:=qgr y6;have M6:=qgr m6;have k9:=g6.size;clear g6 y6 m6 e6 h8 b6 a7 k6 d5 g5 a8;go_upto_region 6 with(first
   | (go_at_call 112;refine(Jd 0 _ _ l _ ((HI.out.kept G6.out (by simp)).mono (qgw _) G6.out.size) a6).mono ?_;rintro e w7 ⟨rfl,e8⟩;have k7:=qgr e8;clear e8;rw[d7.out];unfold A5))
  have b9:=M6.out;have c8:(w7.alloc (.cells #[.int .i64 x0,.int .i64 x1,.int .i64 x2,.int .i64 x3,.int .i64 x4] 118)).heap[w7.heap.size]?=some (.cells #[.int .i64 x0,.int .i64 x1,.int .i64 x2,.int .i64 x3,.int .i64 x4] 118 (0,0)):=qgC w7 _;have a9:=k7.out.trans (qgs w7 (.cells #[.int .i64 x0,.int .i64 x1,.int .i64 x2,.int .i64 x3,.int .i64 x4] 118) none);have h9:M<u6.heap.size:=by obtain⟨es,cl,e,-⟩:=b9;exact qA e
  obtain⟨B7,d6⟩:∃B7,B7=w7.heap.size:=⟨_,rfl⟩;rw[<- d6] at c8;rw[<- d6];refine vS (λv=>w.grownBy v none/\v.heap[Yb]?=some (.cells #[.slice yb ps.length yc,.int .i64 lim] 91 (0,0))/\zS v M [qT l]/\jp v (.slice (some ⟨B7,0,none⟩) [qT l].length 1) [qT l]) ⟨G6.out.trans a9,blk a9 (by simp) Y6.out,b9.kept (a9.block M h9 (by simp)),_,_,rfl,λ_=>⟨B7,0,_,_,rfl,c8,λi s hi d hd=>by
   rcases i with _ | i
   ·simp at hi;subst hi;rw[d7.out];obtain rfl | rfl | rfl | rfl | rfl:d=0\/d=1\/d=2\/d=3\/d=4:=by omega
    all_goals rfl
   ·simp at hi⟩⟩ (λu8 hF=>?_)
  obtain⟨g8,y8,m8,s8⟩:=hF;have G8:=qgr g8;have Y8:=qgr y8;have M8:=qgr m8;have S8:=qgr s8;clear g8 y8 m8 s8 b9 c8 a9 d6;go_wp2;refine wp_label ?_
  rename_i K hK
  refine hK _ _ ?_;refine xu (c':=mX8) (by simp only[mX8,qmx,qgD,sqB,inn]) ?_;refine Code.wp_mono (q8e λa u h=>h.1) (qdE ps lim w u8 pb l.length pc f0 _ o _ _ ⟨_,Yb,M,0,f0,[qT l],[qT l],_,_,rfl,rfl,rfl,rfl,rfl,rfl,rfl,rfl,by omega,HM.out,M8.out,e5,S8.out,G8.out,Y8.out,HP.out.kept G8.out (by simp)⟩ d8.out a6 hf ?_);exact λz' w' b7 hR hg=>q3n b7 hR hg
 ·rintro a u hJ;refine wp_seq ?_;refine wp_skip ?_;refine xu (c':=mX8) (by simp only[mX8,qmx,qgD,sqB,inn]) ?_;refine qdE ps lim w u pb l.length pc f0 _ o a _ hJ d8.out a6 hf ?_;exact λz' w' b7 hR hg=>q3n b7 hR hg
end
section
open Go.RowKit Go.Co
def kV(lo hi:Nat)(w:qgt)(v:qgx)(n:Nat)(c:Nat->Nat->Int):Prop :=
 ∃base cap,v=.slice base n cap/\(n:Int)<=1000000/\(0<n->∃B o cs ty fr,base=some ⟨B,o,none⟩/\lo<=B/\B<hi/\w.heap[B]?=some (.cells cs ty fr)/\∀i,i<n->∀d,d<5->cs[o+i*5+d]?=some (.int .i64 (c i d)))
def ovr(c g:Nat->Int)(l:List Int)(k:Nat):Nat->Int:=λd=>if(d:Int)∈l.take k then c d else g d
theorem q3f(c g:Nat->Int)(l:List Int)(k n:Nat)(h:l[k]?=some (n:Int))(d:Nat):ovr c g l (k+1) d=if d=n then c d else ovr c g l k d:=by
 unfold ovr;rw[qi7,h];by_cases e:d=n
 ·subst e;simp
 ·have:¬ ((d:Int)=n):=by omega
  simp[e,this]
theorem qex(lo hi:Nat)(t:Nat->qgx)(w0 w:qgt)(R:Act->qgt->Prop)(A V:Nat)(av vv:qgx)(N i:Nat)(c:Nat->Nat->Int)(wl:List Int)(B1 B2:Nat)(g h:Nat->Int)(h2:t 2=.pointer (some ⟨A,0,none⟩))(hA:w0.cell? ⟨A,0,none⟩=some av)(hC:kV lo hi w0 av N c)(h5:t 5=.pointer (some ⟨V,0,none⟩))(hV:w0.cell? ⟨V,0,none⟩=some vv)(hI:qe lo hi w0 vv wl)(h7:t 7=.int .i64 i)(l8:i<N)(h8:t 8=.pointer (some ⟨B1,0,none⟩))(h9:t 9=.pointer (some ⟨B2,0,none⟩))(hg:w0.grownBy w none)(a7:w.heap[B1]?=some (qG g))(a6:w.heap[B2]?=some (qG h))(hne:B1≠B2)(hb1:w0.heap.size<=B1)(p3:w0.heap.size<=B2)(hhi:hi<=w0.heap.size)(hx:∀x∈wl,0<=x/\x<5)(hR:∀(l7 l6 l5 l4 k9 k8 k7 k6 k5 k0 g9 g8 g7 g6 g5 e9 e8 e7 e6 e5 e4 d9 d8 d7:qgx) w',w0.grownBy w' none->w'.heap[B1]?=some (qG (ovr (c i) g wl wl.length))->w'.heap[B2]?=some (qG (ovr (c i) h wl wl.length)) ->R ⟨#[t 0,t 1,.pointer (some ⟨A,0,none⟩),t 3,t 4,.pointer (some ⟨V,0,none⟩),t 6,.int .i64 i,.pointer (some ⟨B1,0,none⟩),.pointer (some ⟨B2,0,none⟩),t 10,l7,t 12,t 13,t 14,t 15,t 16,t 17,t 18,t 19,t 20,t 21,t 22,t 23,t 24,l6,l5,l4,k9,k8,k7,k6,k5,k0,g9,g8,g7,g6,g5,e9,e8,e7,e6,e5,e4,d9,d8,d7,t 48,t 49,t 50,t 51,t 52,t 53,t 54,t 55,t 56,t 57,t 58,t 59],[]⟩ w') :wR4.wp Ya (yh R) ⟨#[t 0,t 1,t 2,t 3,t 4,t 5,t 6,t 7,t 8,t 9,t 10,t 11,t 12,t 13,t 14,t 15,t 16,t 17,t 18,t 19,t 20,t 21,t 22,t 23,t 24,t 25,t 26,t 27,t 28,t 29,t 30,t 31,t 32,t 33,t 34,t 35,t 36,t 37,t 38,t 39,t 40,t 41,t 42,t 43,t 44,t 45,t 46,t 47,t 48,t 49,t 50,t 51,t 52,t 53,t 54,t 55,t 56,t 57,t 58,t 59],[]⟩ w:=by
 obtain⟨ab,ac,rfl,hN,c9⟩:=hC;obtain⟨vb,vc,rfl,hq,c8⟩:=hI.cell;obtain⟨AB,ao,p8,p6,p7,rfl,n4,n3,b7,b6⟩:=c9 (by omega);have HR:=qgr hR;have HI:=qgr c8;have HX:=qgr hx;have HA:=qgr hA;have HV:=qgr hV;have HC:=qgr (qhb b7 b6);have m6:=qgr a7;have m5:=qgr a6;have HG:=qgr hg;have p5:A<w0.heap.size:=qpn hA;have p4:V<w0.heap.size:=qpn hV;clear hR hI c8 c9 hx a7 a6 b7 b6;rw[h2,h5,h7,h8,h9];clear h2 h5 h7 h8 h9;simp only[wR4,jH,ql9,qgD,sqA,sqB,inn];have v0:=hg.cell hV (by simp);clear hA hV hg;go_wp2;clear v0;go_loopw [27] (λiv wr=>∃k:Nat,iv=.int .i64 k/\k<=wl.length/\w0.grownBy wr none/\wr.heap[B1]?=some (qG (ovr (c i) g wl k))/\wr.heap[B2]?=some (qG (ovr (c i) h wl k))) (λiv _=>(wl.length - qia iv).toNat)
 case atStart=>exact⟨0,rfl,by omega,HG.out,by rw[m6.out];first | (congr 1;done) | (congr 1;exact yw λd _=>by simp[ovr]),by rw[m5.out];first | (congr 1;done) | (congr 1;exact yw λd _=>by simp[ovr])⟩
 case round=>
  obtain⟨k,rfl,hk,hG,a7,a6⟩:=hrel;have d6:=qgr hG;have b9:=qgr a7;have b8:=qgr a6;have a0:=hG.cell HA.out (by simp);have v0:=hG.cell HV.out (by simp);have n9:=(qgu.1 a7).1;have n8:=(qgu.1 a6).1;have hsz:=hG.size;by_cases hlt:k<wl.length
  ·obtain⟨VB,vo,rfl,n2,m9,m8,b0⟩:=HI.out (by intro e;rw[e] at hlt;simp at hlt);have x0:=hG.cell (b0 k hlt) (by simp);obtain⟨x,a9⟩:∃x,wl[k]?=some x:=⟨_,qgB hlt⟩;obtain⟨n7,n6⟩:=HX.out x (qhc a9);rw[a9] at x0;simp only[qgD] at x0;obtain⟨n,rfl⟩:∃n:Nat,x=n:=⟨x.toNat,by omega⟩;have a8:n<5:=by omega
   have c3:w0.cell? ⟨AB,ao+i*5+n,none⟩=some (.int .i64 (c i n)):=q9 HC.out.1 (HC.out.2 i l8 n a8);have c0:=hG.cell c3 (by simp);have d1:=qn a7 a8;have d2:=qn a6 a8;have f1:=jr a7;have f2:=jr a6;have d5:=qgr a9;clear b0 a9 hG a7 a6 c3;go_upto_region 7 with(fail);have hin:(i:Int)<(N:Int):=by omega
   have m7:(n:Int)<5:=by omega
   have R1:((wr.setCell ⟨B1,n,none⟩ (.int .i64 (c i n))).setCell ⟨B2,n,none⟩ (.int .i64 (c i n))).heap[B1]?=some (qG (ovr (c i) g wl (k+1))):=by
    refine(blk (qh _ B2 _ _) (by simp;exact hne) (xU b9.out a8)).trans ?_
    congr 1
    exact yw λd _=>by rw[q3f _ _ _ _ n d5.out];split<;>simp_all
   have R2:((wr.setCell ⟨B1,n,none⟩ (.int .i64 (c i n))).setCell ⟨B2,n,none⟩ (.int .i64 (c i n))).heap[B2]?=some (qG (ovr (c i) h wl (k+1))):=by
    refine(xU (blk (qh _ B1 _ _) (by simp;omega) b8.out) a8).trans ?_
    congr 1
    exact yw λd _=>by rw[q3f _ _ _ _ n d5.out];split<;>simp_all
   have RG:w0.grownBy ((wr.setCell ⟨B1,n,none⟩ (.int .i64 (c i n))).setCell ⟨B2,n,none⟩ (.int .i64 (c i n))).drew none :=
    ((d6.out.andThen (row':=some B1) (qh _ _ _ _) (by rintro j e;cases e;exact .inl (by omega))).andThen (row':=some B2) (qh _ _ _ _) (by rintro j e;cases e;exact .inl (by omega))).trans (qg _ _)
   have m4:=qgr R1;have m3:=qgr R2;have l9:=qgr RG;clear R1 R2 RG;go_region_law (fail);all_goals
    clear a0 x0 c0 d1 d2 f1 f2;go_wp2;go_roundw
    case rel=>exact⟨k+1,by simp,by omega,l9.out,m4.out,m3.out⟩
    case measure=>simp[qia];omega
  ·obtain rfl:k=wl.length:=by omega
   clear hG a7 a6 a0 v0;go_wp2;exact HR.out _ _ _ _ _ _ _ _ _ _ _ _ _ _ _ _ _ _ _ _ _ _ _ _ wr d6.out b9.out b8.out
theorem qew(lo hi:Nat)(t:Nat->qgx)(w0 w:qgt)(R:Act->qgt->Prop)(Y V:Nat)(yb:Option qi2)(yc:Nat)(vv:qgx)(ps:List Par)(lim:Int)(l:List Int)(B1 B2:Nat)(g h:Nat->Int)(h4:t 4=.pointer (some ⟨Y,0,none⟩))(c9:w0.cell? ⟨Y,0,none⟩=some (.slice yb ps.length yc))(c8:w0.cell? ⟨Y,1,none⟩=some (.int .i64 lim))(hP:qw lo hi w0 (.slice yb ps.length yc) ps)(h6:t 6=.pointer (some ⟨V,0,none⟩))(hV:w0.cell? ⟨V,0,none⟩=some vv)(hI:qe lo hi w0 vv l)(h8:t 8=.pointer (some ⟨B1,0,none⟩))(h9:t 9=.pointer (some ⟨B2,0,none⟩))(hg:w0.grownBy w none)(a7:w.heap[B1]?=some (qG g))(d5:w.heap[B2]?=some (qG h))(hhi:hi<=w0.heap.size)(b8:ps.length<=5)(hx:∀x∈l,0<=x/\x<ps.length)(hl:l.length<=1000)(hgb:∀i,0<=g i/\g i<=1000)(b9:∀i,0<=h i/\h i<=1000)(hR:∀(g7 g6 g5 e9 e8 e7 e6 e5 e4 d9:qgx) w',w.grownBy w' none->R ⟨#[t 0,t 1,t 2,t 3,.pointer (some ⟨Y,0,none⟩),t 5,.pointer (some ⟨V,0,none⟩),t 7,.pointer (some ⟨B1,0,none⟩),.pointer (some ⟨B2,0,none⟩),t 10,t 11,t 12,t 13,t 14,t 15,t 16,t 17,t 18,t 19,t 20,t 21,t 22,t 23,t 24,t 25,t 26,t 27,t 28,t 29,t 30,t 31,t 32,t 33,t 34,t 35,t 36,t 37,t 38,t 39,t 40,t 41,t 42,t 43,t 44,t 45,t 46,t 47,g7,g6,g5,e9,e8,e7,e6,e5,e4,d9,.bool (qu ps g l && !qu ps h l),t 59],[]⟩ w') :wR9.wp Ya (yh R) ⟨#[t 0,t 1,t 2,t 3,t 4,t 5,t 6,t 7,t 8,t 9,t 10,t 11,t 12,t 13,t 14,t 15,t 16,t 17,t 18,t 19,t 20,t 21,t 22,t 23,t 24,t 25,t 26,t 27,t 28,t 29,t 30,t 31,t 32,t 33,t 34,t 35,t 36,t 37,t 38,t 39,t 40,t 41,t 42,t 43,t 44,t 45,t 46,t 47,t 48,t 49,t 50,t 51,t 52,t 53,t 54,t 55,t 56,t 57,t 58,t 59],[]⟩ w:=by
 obtain⟨vb,vc,rfl,hq,-⟩:=hI.cell;have HR:=qgr hR;have HI:=qgr (hI.kept hg (by simp));have HP:=qgr (hP.kept hg (by simp));have HX:=qgr hx;have d7:=qgr hgb;have k5:=qgr b9;have a8:=qgr d5;have y0:=hg.cell c9 (by simp);have y1:=hg.cell c8 (by simp);have v0:=hg.cell hV (by simp);have k6:=hg.size;have a0:=qn a7 (show 0<5 by omega);have a1:=qn a7 (show 1<5 by omega);have a2:=qn a7 (show 2<5 by omega);have a3:=qn a7 (show 3<5 by omega);have a4:=qn a7 (show 4<5 by omega);rw[h4,h6,h8,h9];have SC:=qgr (qhb y0 (qhb y1 v0));clear hR hI hP hx hgb b9 d5 c9 c8 hV hg h4 h6 h8 h9 a7;simp only[wR9,jH,ql9,qgD,sqA,sqB,inn];obtain⟨s1,b7⟩:∃s1,qu ps g l=s1:=⟨_,rfl⟩;obtain⟨s2,b6⟩:∃s2,qu ps h l=s2:=⟨_,rfl⟩;rw[b7,b6] at HR;have d6:=qgr b7;have g8:=qgr b6;clear b7 b6;cases s1
 ·go_wp2_with fail;refine(kr lo hi _ _ ps lim l g _ ⟨_,rfl,HP.out⟩ HI.out (by omega) b8 HX.out hl d7.out).mono ?_;rintro e w5 ⟨rfl,a6⟩;rw[d6.out];have a9:=qgr a6;clear a6 y0 y1 v0 a0 a1 a2 a3 a4;go_wp2;exact HR.out _ _ _ _ _ _ _ _ _ _ _ a9.out
 ·go_wp2_with fail;refine(kr lo hi _ _ ps lim l g _ ⟨_,rfl,HP.out⟩ HI.out (by omega) b8 HX.out hl d7.out).mono ?_;rintro e w5 ⟨rfl,a6⟩;rw[d6.out];have b0:=qn (blk a6 (by simp) a8.out) (show 0<5 by omega);have b1:=qn (blk a6 (by simp) a8.out) (show 1<5 by omega);have b2:=qn (blk a6 (by simp) a8.out) (show 2<5 by omega);have b3:=qn (blk a6 (by simp) a8.out) (show 3<5 by omega);have b4:=qn (blk a6 (by simp) a8.out) (show 4<5 by omega);have z0:=a6.cell SC.out.1 (by simp);have z1:=a6.cell SC.out.2.1 (by simp);have z2:=a6.cell SC.out.2.2 (by simp);have hz:=a6.size;have g9:=qgr (HP.out.kept a6 (by simp));have k0:=qgr (HI.out.kept a6 (by simp));have a9:=qgr a6;clear a6 y0 y1 v0 a0 a1 a2 a3 a4;go_wp2_with fail;refine(kr lo hi _ _ ps lim l h _ ⟨_,rfl,g9.out⟩ k0.out (by omega) b8 HX.out hl k5.out).mono ?_;rintro e w6 ⟨rfl,c3⟩;rw[g8.out];have d8:=qgr c3;clear c3 b0 b1 b2 b3 b4 z0 z1 z2;cases s2
  ·go_wp2;exact HR.out _ _ _ _ _ _ _ _ _ _ _ (a9.out.trans d8.out)
  ·go_wp2;exact HR.out _ _ _ _ _ _ _ _ _ _ _ (a9.out.trans d8.out)
end
section
open Go Go.RowKit Go.Conc Go.ConcN Go.ConcN.Gen Go.Conc.Lib Go.ConcR.Gen Go.Co Go.Sim
def qL:qj9->Array qiu | .region _ ops _=>ops | _=>#[]
noncomputable def wLB:qj9:=inn (inn (sqB (Tryz.f139.body.getD .skip)))
noncomputable def qcF:Array qiu:=qL (sqA jH)
noncomputable def qaj:Array qiu:=qL (sqA (sqA (sqB jH)))
noncomputable def Z1:Array qiu:=qL (sqA (sqB (Tryz.f141.body.getD .skip)))
noncomputable def Z0:Array qiu:=qL (sqA (sqB (Tryz.f142.body.getD .skip)))
noncomputable def JG:Array qiu:=qL (Tryz.f143.body.getD .skip)
noncomputable def jw:List qkz:=[.inLoop wLB,.inBlock 0]
def pt(b:Nat):qgx:=.pointer (some ⟨b,0,none⟩)
noncomputable def f1(tm:Array qgx)(D:List qiE):qgH:=(qip 139).at ⟨tm,D⟩ (.inRegion qcF [0,1,2]::.code (sqB jH)::.inBlock 1::jw)
theorem YI(x:Array qgx)(h:x.size=60):∃y0 y1 y2 y3 y4 y5 y6 y7 y8 y9 y10 y11 y12 y13 y14 y15 y16 y17 y18 y19 y20 y21 y22 y23 y24 y25 y26 y27 y28 y29 y30 y31 y32 y33 y34 y35 y36 y37 y38 y39 y40 y41 y42 y43 y44 y45 y46 y47 y48 y49 y50 y51 y52 y53 y54 y55 y56 y57 y58 y59,x=#[y0,y1,y2,y3,y4,y5,y6,y7,y8,y9,y10,y11,y12,y13,y14,y15,y16,y17,y18,y19,y20,y21,y22,y23,y24,y25,y26,y27,y28,y29,y30,y31,y32,y33,y34,y35,y36,y37,y38,y39,y40,y41,y42,y43,y44,y45,y46,y47,y48,y49,y50,y51,y52,y53,y54,y55,y56,y57,y58,y59]:=by
 have e:=xr x;rw[h] at e;exact⟨_,_,_,_,_,_,_,_,_,_,_,_,_,_,_,_,_,_,_,_,_,_,_,_,_,_,_,_,_,_,_,_,_,_,_,_,_,_,_,_,_,_,_,_,_,_,_,_,_,_,_,_,_,_,_,_,_,_,_,_,e.trans rfl⟩
theorem q49{Fz S:Bs}{A o size:Nat}(h:Fz A)(hs:A<size):EvC Fz S size ⟨.cell ⟨A,o,none⟩,false,Mode.plain == Mode.atomic⟩:=by
 refine⟨⟨by simp,by simp,by simp⟩,λm hm=>by simp at hm,λx hx b hb=>?_⟩;have hx':x=⟨.cell ⟨A,o,none⟩,false,.plain⟩:=by
  have e:(Mode.plain == Mode.atomic)=false:=by decide
  rw[e] at hx;simp[qiq,qjb] at hx;exact hx.symm
 subst hx';simp only[Go.Co.blk,qht] at hb;subst hb;exact⟨hs,rfl,.inr ⟨h,rfl⟩⟩
noncomputable def c20:qj9:=sqB (sqA (sqB jH))
noncomputable def wX:qj9:=sqB (sqB jH)
noncomputable def f2(tm:Array qgx)(D:List qiE):qgH:=(qip 139).at ⟨tm,D⟩ (.inRegion qaj [5,6]::.code c20::.code wX::.inBlock 1::jw)
section
variable{Fz:Bs}{K:qgt->qgt->Prop}{Stop:Bs->qgy->qgt->Prop}{S:Bs}(hK:∀a b c,K a b->K b c->K a c)
include hK
theorem qcz{tm:Array qgx}{D:List qiE}{real:List qgH}{Nx:Nat}{w:qgt}(h1:tm[1]?.getD qgz=pt Nx)(hstop:∀w₁,RC Fz K S w w₁->Stop S (G ((qhf 141).at ⟨#[pt Nx,.int .i64 1,qgz,qgz,.int .i64 0,pt Nx,pt Nx,pt Nx,.int .i64 1,qgz],[]⟩ [.inRegion Z1 [4,5],.code .ret]) (f1 tm D::real)) w₁) :qm qh3 Fz K Stop S (G ((qip 139).at ⟨tm,D⟩ (.code wLB::jw)) real) w:=by
 simp only[f1,qcF,Z1,wLB,jH,jw,ql9,qnn,qgD,sqA,sqB,inn,qL] at hstop ⊢;refine qm.block hK ?_;refine qm.seq hK ?_;refine qm.region hK ?_;simp only[qhk,qh1,qh7,qhj,qhd,qhl,qi0];refine qm.enter hK rfl rfl (by k_ne) rfl qqb (by kernel_rfl) rfl ?_
 walk_nrmf qnn
 rw[h1];simp only[pt] at hstop ⊢;refine qm.seq hK ?_;refine qm.region hK ?_;simp only[qhk,qh1,qh7,qhj,qhd,qhl,qi0];refine qm.value hK (.int .i64 0) rfl rfl (by k_ne) (λ_=>by go_simp) (λ_=>by simp[go_sem]) ?_;walk_nrm;refine qm.region_end hK ?_;refine qm.seq hK ?_;refine qm.region hK ?_;simp only[qhk,qh1,qh7,qhj,qhd,qhl,qi0];refine qm.value hK (.pointer (some ⟨Nx,0,none⟩)) rfl rfl (by k_ne) (λ_=>by go_simp) (λ_=>by simp[go_sem]) ?_;walk_nrm;refine qm.value hK (.pointer (some ⟨Nx,0,none⟩)) rfl rfl (by k_ne) (λ_=>by go_simp) (λ_=>by simp[go_sem]) ?_;walk_nrm;refine qm.value hK (.pointer (some ⟨Nx,0,none⟩)) rfl rfl (by k_ne) (λ_=>by go_simp) (λ_=>by simp[go_sem]) ?_;walk_nrm;refine qm.value hK (.int .i64 1) rfl rfl (by k_ne) (λ_=>by go_simp) (λ_=>by simp[go_sem]) ?_;walk_nrm;exact qm.stop hstop
theorem qcy[JunkSet]{tm:Array qgx}(hsz:tm.size=60){D:List qiE}{real:List qgH}{Nx Fd A i N:Nat}{av:qgx}{ab:Option qi2}{ac:Nat}{w:qgt}(h2:tm[2]?.getD qgz=pt A)(h3:tm[3]?.getD qgz=pt Fd)(hA:∀w₁,RC Fz K S w w₁->w₁.cell? ⟨A,0,none⟩=some (.slice ab N ac))(a7:Fz A)(a6:A<w.heap.size)(hi:i<N)(hN:N<=1000000)(hstop:∀w₁,RC Fz K S w w₁->Stop S (G ((qhf 142).at ⟨#[pt Fd,qgz,.bool false,pt Fd,pt Fd,pt Fd,qgz,qgz],[]⟩ [.inRegion Z0 [3,4,5],.code .ret]) (f2 ((((((((tm.setIfInBounds 12 (.int .i64 (i+1))).setIfInBounds 13 (.int .i64 i)).setIfInBounds 7 (.int .i64 i)).setIfInBounds 14 (.int .i64 i)).setIfInBounds 15 (.slice ab N ac)).setIfInBounds 16 (.int .i64 N)).setIfInBounds 17 (.bool false)).setIfInBounds 18 (.bool false)) D::real)) w₁) :qm qh3 Fz K Stop S (G ((qhf 141).at ⟨#[pt Nx,.int .i64 1,qgz,qgz,.int .i64 0,pt Nx,pt Nx,pt Nx,.int .i64 1,.int .i64 (i+1)],[]⟩ [.inRegion Z1 [5],.code .ret]) (f1 tm D::real)) w:=by
 obtain⟨y0,y1,y2,y3,y4,y5,y6,y7,y8,y9,y10,y11,y12,y13,y14,y15,y16,y17,y18,y19,y20,y21,y22,y23,y24,y25,y26,y27,y28,y29,y30,y31,y32,y33,y34,y35,y36,y37,y38,y39,y40,y41,y42,y43,y44,y45,y46,y47,y48,y49,y50,y51,y52,y53,y54,y55,y56,y57,y58,y59,rfl⟩:=YI tm hsz;simp only[f1,f2,c20,wX,qcF,qaj,Z1,Z0,wLB,jH,jw,ql9,qnn,qn4,qgD,sqA,sqB,inn,qL] at hstop ⊢;simp at h2 h3;subst h2 h3;simp only[qod,List.set_cons_succ,List.set_cons_zero] at hstop;simp only[pt] at hstop ⊢;have a8:IntKind.i64.wrap (i:Int)=i:=qhm _ (by omega);refine qm.value hK (.int .i64 (i+1)) rfl rfl (by k_ne) (λ_=>by go_simp) (λ_=>by simp[go_sem]) ?_;walk_nrm;refine qm.region_end hK ?_;refine qm.retS hK ?_;refine qm.leave1 hK rfl rfl qqb rfl ?_;walk_nrm;refine qm.value hK (.int .i64 i) rfl rfl (by k_ne) (λ_=>by go_simp) (λ_=>by simp[go_sem]) ?_;walk_nrm;refine qm.value hK (.int .i64 i) rfl rfl (by k_ne) (λ_=>by go_simp) (λ_=>by simp[go_sem]) ?_;walk_nrm;refine qm.region_end hK ?_;refine qm.seq hK ?_;refine qm.seq hK ?_;refine qm.region hK ?_;simp only[qhk,qh1,qh7,qhj,qhd,qhl,qi0];refine qm.value hK (.int .i64 i) rfl rfl (by k_ne) (λ_=>by go_simp) (λ_=>by simp[go_sem]) ?_;walk_nrm;refine qm.load hK (.slice ab N ac) rfl rfl (by k_ne) (λw₁ h₁=>?_) ?_
 ·have hc:=hA w₁ h₁;refine⟨by go_simp,λe he=>?_⟩;simp[go_sem,hc] at he;rw[he];exact q49 a7 (qh2 a6 h₁.size)
 walk_nrm;refine qm.value hK (.int .i64 N) rfl rfl (by k_ne) (λ_=>by go_simp) (λ_=>by simp[go_sem]) ?_;walk_nrm;refine qm.value hK (.bool false) rfl rfl (by k_ne) (λ_=>by go_simp) (λ_=>by simp[go_sem]) ?_;walk_nrm;refine qm.value hK (.bool false) rfl rfl (by k_ne) (λ_=>by go_simp) (λ_=>by simp[go_sem]) ?_;walk_nrm;refine qm.enter hK rfl rfl (by k_ne) rfl qne (by kernel_rfl) rfl ?_
 walk_nrmf qn4
 refine qm.seq hK ?_;refine qm.region hK ?_;simp only[qhk,qh1,qh7,qhj,qhd,qhl,qi0];refine qm.value hK (.bool false) rfl rfl (by k_ne) (λ_=>by go_simp) (λ_=>by simp[go_sem]) ?_;walk_nrm;refine qm.region_end hK ?_;refine qm.seq hK ?_;refine qm.region hK ?_;simp only[qhk,qh1,qh7,qhj,qhd,qhl,qi0];refine qm.value hK (.pointer (some ⟨Fd,0,none⟩)) rfl rfl (by k_ne) (λ_=>by go_simp) (λ_=>by simp[go_sem]) ?_;walk_nrm;refine qm.value hK (.pointer (some ⟨Fd,0,none⟩)) rfl rfl (by k_ne) (λ_=>by go_simp) (λ_=>by simp[go_sem]) ?_;walk_nrm;refine qm.value hK (.pointer (some ⟨Fd,0,none⟩)) rfl rfl (by k_ne) (λ_=>by go_simp) (λ_=>by simp[go_sem]) ?_;walk_nrm;exact qm.stop hstop
end
end
section
open Go Go.RowKit Go.Conc Go.ConcN Go.ConcN.Gen Go.Conc.Lib Go.ConcR.Gen Go.Co Go.Sim
noncomputable def bot:qgH:={ (default:qgH) with fn:=Tryz.prog.funcs.size,mode:=.panicking [qpc] }
def dn(Wg:Nat):List qiE:=[qr2 140 #[pt Wg]]
section
variable{Fz:Bs}{K:qgt->qgt->Prop}{Stop:Bs->qgy->qgt->Prop}{S:Bs}(hK:∀a b c,K a b->K b c->K a c)
include hK
theorem qaa[JunkSet]{tm:Array qgx}(hsz:tm.size=60){D:List qiE}{real:List qgH}{Nx A i N:Nat}{ab:Option qi2}{ac:Nat}{w:qgt}(h2:tm[2]?.getD qgz=pt A)(hA:∀w₁,RC Fz K S w w₁->w₁.cell? ⟨A,0,none⟩=some (.slice ab N ac))(a7:Fz A)(a6:A<w.heap.size)(hi:N<=i)(hN:i<=1000000)(hend:∀tm todo,qm qh3 Fz K Stop S (G { (qip 139).at ⟨tm,D⟩ todo with mode:=.returning } real) w) :qm qh3 Fz K Stop S (G ((qhf 141).at ⟨#[pt Nx,.int .i64 1,qgz,qgz,.int .i64 0,pt Nx,pt Nx,pt Nx,.int .i64 1,.int .i64 (i+1)],[]⟩ [.inRegion Z1 [5],.code .ret]) (f1 tm D::real)) w:=by
 obtain⟨y0,y1,y2,y3,y4,y5,y6,y7,y8,y9,y10,y11,y12,y13,y14,y15,y16,y17,y18,y19,y20,y21,y22,y23,y24,y25,y26,y27,y28,y29,y30,y31,y32,y33,y34,y35,y36,y37,y38,y39,y40,y41,y42,y43,y44,y45,y46,y47,y48,y49,y50,y51,y52,y53,y54,y55,y56,y57,y58,y59,rfl⟩:=YI tm hsz;simp only[f1,qcF,qaj,Z1,wLB,jH,jw,ql9,qnn,qgD,sqA,sqB,inn,qL];simp at h2;subst h2;simp only[pt];have a9:IntKind.i64.wrap (i:Int)=i:=qhm _ (by omega);have hge:decide ((N:Int)<=(i:Int))=true:=by simp;omega
 have a8:decide (N<=i)=true:=by simp;omega
 refine qm.value hK (.int .i64 (i+1)) rfl rfl (by k_ne) (λ_=>by go_simp) (λ_=>by simp[go_sem]) ?_;walk_nrm;refine qm.region_end hK ?_;refine qm.retS hK ?_;refine qm.leave1 hK rfl rfl qqb rfl ?_;walk_nrm;refine qm.value hK (.int .i64 i) rfl rfl (by k_ne) (λ_=>by go_simp) (λ_=>by simp[go_sem]) ?_;walk_nrm;refine qm.value hK (.int .i64 i) rfl rfl (by k_ne) (λ_=>by go_simp) (λ_=>by simp[go_sem]) ?_;walk_nrm;refine qm.region_end hK ?_;refine qm.seq hK ?_;refine qm.seq hK ?_;refine qm.region hK ?_;simp only[qhk,qh1,qh7,qhj,qhd,qhl,qi0];refine qm.value hK (.int .i64 i) rfl rfl (by k_ne) (λ_=>by go_simp) (λ_=>by simp[go_sem]) ?_;walk_nrm;refine qm.load hK (.slice ab N ac) rfl rfl (by k_ne) (λw₁ h₁=>?_) ?_
 ·have hc:=hA w₁ h₁;refine⟨by go_simp,λe he=>?_⟩;simp[go_sem,hc] at he;rw[he];exact q49 a7 (qh2 a6 h₁.size)
 walk_nrm;refine qm.value hK (.int .i64 N) rfl rfl (by k_ne) (λ_=>by go_simp) (λ_=>by simp[go_sem]) ?_;walk_nrm;refine qm.value hK (.bool true) rfl rfl (by k_ne) (λ_=>by go_simp) (λ_=>by simp[go_sem]) ?_;walk_nrm;refine qm.value hK (.bool true) rfl rfl (by k_ne) (λ_=>by go_simp) (λ_=>by simp[go_sem]) ?_;walk_nrm;refine qm.unwanted hK rfl rfl ?_;walk_nrm;refine qm.value hK (.bool true) rfl rfl (by k_ne) (λ_=>by go_simp) (λ_=>by simp[go_sem]) ?_;walk_nrm;refine qm.region_end hK ?_;refine qm.cond hK true rfl ?_;simp only[if_true];refine qm.retS hK ?_;exact hend _ _
theorem qa8{tm:Array qgx}(hsz:tm.size=60){D:List qiE}{real:List qgH}{Fd:Nat}{w:qgt}(a6:tm[18]?.getD qgz=.bool false)(hend:∀tm todo,qm qh3 Fz K Stop S (G { (qip 139).at ⟨tm,D⟩ todo with mode:=.returning } real) w) :qm qh3 Fz K Stop S (G ((qhf 142).at ⟨#[pt Fd,qgz,.bool false,pt Fd,pt Fd,pt Fd,.int .u32 1,qgz],[]⟩ [.inRegion Z0 [4,5],.code .ret]) (f2 tm D::real)) w:=by
 obtain⟨y0,y1,y2,y3,y4,y5,y6,y7,y8,y9,y10,y11,y12,y13,y14,y15,y16,y17,y18,y19,y20,y21,y22,y23,y24,y25,y26,y27,y28,y29,y30,y31,y32,y33,y34,y35,y36,y37,y38,y39,y40,y41,y42,y43,y44,y45,y46,y47,y48,y49,y50,y51,y52,y53,y54,y55,y56,y57,y58,y59,rfl⟩:=YI tm hsz;simp only[f2,c20,wX,qaj,Z0,wLB,jH,jw,ql9,qn4,qgD,sqA,sqB,inn,qL];simp at a6;subst a6;simp only[pt];refine qm.value hK (.bool true) rfl rfl (by k_ne) (λ_=>by go_simp) (λ_=>by simp[go_sem]) ?_;walk_nrm;refine qm.value hK (.bool true) rfl rfl (by k_ne) (λ_=>by go_simp) (λ_=>by simp[go_sem]) ?_;walk_nrm;refine qm.region_end hK ?_;refine qm.retS hK ?_;refine qm.leave1 hK rfl rfl qne rfl ?_;walk_nrm;refine qm.value hK (.bool true) rfl rfl (by k_ne) (λ_=>by go_simp) (λ_=>by simp[go_sem]) ?_;walk_nrm;refine qm.region_end hK ?_;refine qm.cond hK true rfl ?_;simp only[if_true];refine qm.retS hK ?_;exact hend _ _
theorem qa9{tm:Array qgx}(hsz:tm.size=60){D:List qiE}{real:List qgH}{Fd:Nat}{w:qgt}(a6:tm[18]?.getD qgz=.bool false)(hend:qm qh3 Fz K Stop S (G ((qip 139).at ⟨(tm.setIfInBounds 19 (.bool false)).setIfInBounds 20 (.bool false),D⟩ (.code wX::.inBlock 1::jw)) real) w) :qm qh3 Fz K Stop S (G ((qhf 142).at ⟨#[pt Fd,qgz,.bool false,pt Fd,pt Fd,pt Fd,.int .u32 0,qgz],[]⟩ [.inRegion Z0 [4,5],.code .ret]) (f2 tm D::real)) w:=by
 obtain⟨y0,y1,y2,y3,y4,y5,y6,y7,y8,y9,y10,y11,y12,y13,y14,y15,y16,y17,y18,y19,y20,y21,y22,y23,y24,y25,y26,y27,y28,y29,y30,y31,y32,y33,y34,y35,y36,y37,y38,y39,y40,y41,y42,y43,y44,y45,y46,y47,y48,y49,y50,y51,y52,y53,y54,y55,y56,y57,y58,y59,rfl⟩:=YI tm hsz;simp only[f2,c20,wX,qaj,Z0,wLB,jH,jw,ql9,qn4,qgD,sqA,sqB,inn,qL] at hend ⊢;simp at a6;subst a6;simp only[pt];simp only[qod,List.set_cons_succ,List.set_cons_zero] at hend;refine qm.value hK (.bool false) rfl rfl (by k_ne) (λ_=>by go_simp) (λ_=>by simp[go_sem]) ?_;walk_nrm;refine qm.value hK (.bool false) rfl rfl (by k_ne) (λ_=>by go_simp) (λ_=>by simp[go_sem]) ?_;walk_nrm;refine qm.region_end hK ?_;refine qm.retS hK ?_;refine qm.leave1 hK rfl rfl qne rfl ?_;walk_nrm;refine qm.value hK (.bool false) rfl rfl (by k_ne) (λ_=>by go_simp) (λ_=>by simp[go_sem]) ?_;walk_nrm;refine qm.region_end hK ?_;refine qm.cond hK false rfl ?_;simp only[if_false,qho];refine qm.skip hK ?_;exact hend
end
end
section
open Go Go.RowKit Go.Conc Go.ConcN Go.ConcN.Gen Go.Conc.Lib Go.ConcR.Gen Go.Co Go.Sim
noncomputable def q2e:qj9:=sqB (sqB (sqB (sqB (sqB jH))))
noncomputable def q5n:Array qiu:=qL (match q2e with | .cond _ r _=>r | c=>c)
noncomputable def f10(tm:Array qgx)(D:List qiE):qgH:=(qip 139).at ⟨tm,D⟩ (.inRegion q5n [0]::.inBlock 1::jw)
structure I14(Fd:Nat)(l:Array Bool)(a:Act):Prop where
 c1:l[1]?.getD false=true->l[0]?.getD false=true
 c2:l[2]?.getD false=true->l[1]?.getD false=true
 c4:l[4]?.getD false=true->l[3]?.getD false=true
 c5:l[5]?.getD false=false
 ac:∃T4 T5 T6 T7 T8,a=⟨#[.pointer (some ⟨Fd,0,none⟩),.bool true,qgz,qgz,T4,T5,T6,T7,T8,qgz],[]⟩/\(l[0]?.getD false=true->T4=.pointer (some ⟨Fd,0,none⟩))/\(l[1]?.getD false=true->T5=.pointer (some ⟨Fd,0,none⟩))/\(l[2]?.getD false=true->T6=.pointer (some ⟨Fd,0,none⟩))/\(l[3]?.getD false=true->T7=.bool true)/\(l[4]?.getD false=true->T8=.int .u32 1)
section
variable{Fz:Bs}{K:qgt->qgt->Prop}{Stop:Bs->qgy->qgt->Prop}{S:Bs}(hK:∀a b c,K a b->K b c->K a c)
include hK
theorem qcv{tm:Array qgx}(hsz:tm.size=60){D:List qiE}{real:List qgH}{w:qgt}(h58:tm[58]?.getD qgz=.bool false)(hend:qm qh3 Fz K Stop S (G ((qip 139).at ⟨tm,D⟩ (.code wLB::jw)) real) w) :qm qh3 Fz K Stop S (G ((qip 139).at ⟨tm,D⟩ (.code q2e::.inBlock 1::jw)) real) w:=by
 obtain⟨y0,y1,y2,y3,y4,y5,y6,y7,y8,y9,y10,y11,y12,y13,y14,y15,y16,y17,y18,y19,y20,y21,y22,y23,y24,y25,y26,y27,y28,y29,y30,y31,y32,y33,y34,y35,y36,y37,y38,y39,y40,y41,y42,y43,y44,y45,y46,y47,y48,y49,y50,y51,y52,y53,y54,y55,y56,y57,y58,y59,rfl⟩:=YI tm hsz;simp only[q2e,wLB,jH,jw,ql9,qgD,sqA,sqB,inn] at hend ⊢;simp at h58;subst h58;refine qm.cond hK false rfl ?_;simp only[if_false,qho];refine qm.skip hK ?_;refine qm.inBlock hK ?_;refine qm.inLoop hK ?_;exact hend
theorem qcx{tm:Array qgx}{D:List qiE}{real:List qgH}{Fd:Nat}{w:qgt}(hend:qm qh3 Fz K Stop S (G ((qip 139).at ⟨tm.setIfInBounds 59 (.tuple #[]),D⟩ (.code wLB::jw)) real) w) :qm qh3 Fz K Stop S (G ((qhf 143).at ⟨#[pt Fd,.bool true,qgz,qgz,pt Fd,pt Fd,pt Fd,.bool true,.int .u32 1,.tuple #[]],[]⟩ [.inRegion JG []]) (f10 tm D::real)) w:=by
 simp only[f10,q5n,JG,q2e,wLB,jH,jw,ql9,qo3,qgD,sqA,sqB,inn,qL] at hend ⊢;refine qm.region_end hK ?_;refine qm.endS hK ?_;refine qm.leave0 hK rfl rfl Tryz.func143 rfl ?_;refine qm.region_end hK ?_;refine qm.inBlock hK ?_;refine qm.inLoop hK ?_;exact hend
theorem qcu(b0:∀w n,K w { w with drawn:=n }){tm:Array qgx}(hsz:tm.size=60){D:List qiE}{real:List qgH}{Fd:Nat}{w:qgt}(h3:tm[3]?.getD qgz=pt Fd)(h58:tm[58]?.getD qgz=.bool true)(hstop:∀w₁,RC Fz K S w w₁->Stop S (G ((qhf 143).at ⟨#[pt Fd,.bool true,qgz,qgz,pt Fd,pt Fd,pt Fd,.bool true,.int .u32 1,qgz],[]⟩ [.inRegion JG [5]]) (f10 tm D::real)) w₁) :qm qh3 Fz K Stop S (G ((qip 139).at ⟨tm,D⟩ (.code q2e::.inBlock 1::jw)) real) w:=by
 obtain⟨y0,y1,y2,y3,y4,y5,y6,y7,y8,y9,y10,y11,y12,y13,y14,y15,y16,y17,y18,y19,y20,y21,y22,y23,y24,y25,y26,y27,y28,y29,y30,y31,y32,y33,y34,y35,y36,y37,y38,y39,y40,y41,y42,y43,y44,y45,y46,y47,y48,y49,y50,y51,y52,y53,y54,y55,y56,y57,y58,y59,rfl⟩:=YI tm hsz;simp only[f10,q5n,JG,q2e,wLB,jH,jw,ql9,qo3,qgD,sqA,sqB,inn,qL] at hstop ⊢;simp at h3 h58;subst h3 h58;simp only[pt] at hstop ⊢;refine qm.cond hK true rfl ?_;simp only[if_true];refine qm.region hK ?_;simp only[qhk,qh1,qh7,qhj,qhd,qhl,qi0];refine qm.enter hK rfl rfl (by k_ne) rfl Tryz.func143 (by kernel_rfl) rfl ?_
 walk_nrmf qo3
 refine qm.region_inv hK (by kernel_rfl) b0 (I14 Fd) ?_ ?_ ?_
 ·exact⟨by simp,by simp,by simp,by simp,qgz,qgz,qgz,qgz,qgz,rfl,by simp,by simp,by simp,by simp,by simp⟩
 ·rintro l a i hl ⟨c1,c2,c4,c5,T4,T5,T6,T7,T8,rfl,k0,k1,k2,k3,k4⟩ hi rest a8 a7;have a9:=(zx hi).1;have b7:l.size=6:=hl;have gs:∀i j,i<6->(l.setIfInBounds i true)[j]?.getD false=if i=j then true else l[j]?.getD false:=λi j h=>Qw l i j (by omega);have b6:=Zu hi;have a9:i=0\/i=1\/i=2\/i=3\/i=4\/i=5:=by
   have:i<6:=a9;omega
  rcases a9 with rfl | rfl | rfl | rfl | rfl | rfl
  ·refine qm.value hK (.pointer (some ⟨Fd,0,none⟩)) rfl rfl (by k_ne) (λ_=>by go_simp) (λ_=>by simp[go_sem]) ?_;walk_nrm;exact a7 _ ⟨by simp[gs],by simpa[gs] using λh=>(c2 h),by simpa[gs] using c4,by simpa[gs] using c5,_,T5,T6,T7,T8,rfl,λ_=>rfl,by simpa[gs] using k1,by simpa[gs] using k2,by simpa[gs] using k3,by simpa[gs] using k4⟩
  ·have a6:=zw hi rfl;simp[qhH] at a6;obtain rfl:=k0 (by simp[a6]);refine qm.value hK (.pointer (some ⟨Fd,0,none⟩)) rfl rfl (by k_ne) (λ_=>by go_simp) (λ_=>by simp[go_sem]) ?_;walk_nrm;exact a7 _ ⟨by simp[gs,a6],by simp[gs],by simpa[gs] using c4,by simpa[gs] using c5,_,_,T6,T7,T8,rfl,λ_=>rfl,λ_=>rfl,by simpa[gs] using k2,by simpa[gs] using k3,by simpa[gs] using k4⟩
  ·have a6:=zw hi rfl;simp[qhH] at a6;obtain rfl:=k1 (by simp[a6]);refine qm.value hK (.pointer (some ⟨Fd,0,none⟩)) rfl rfl (by k_ne) (λ_=>by go_simp) (λ_=>by simp[go_sem]) ?_;walk_nrm;exact a7 _ ⟨by simpa[gs] using c1,by simp[gs,a6],by simpa[gs] using c4,by simpa[gs] using c5,T4,_,_,T7,T8,rfl,by simpa[gs] using k0,λ_=>rfl,λ_=>rfl,by simpa[gs] using k3,by simpa[gs] using k4⟩
  ·refine qm.value hK (.bool true) rfl rfl (by k_ne) (λ_=>by go_simp) (λ_=>by simp[go_sem]) ?_;walk_nrm;exact a7 _ ⟨by simpa[gs] using c1,by simpa[gs] using c2,by simp[gs],by simpa[gs] using c5,T4,T5,T6,_,T8,rfl,by simpa[gs] using k0,by simpa[gs] using k1,by simpa[gs] using k2,λ_=>rfl,by simpa[gs] using k4⟩
  ·have a6:=zw hi rfl;simp[qhH] at a6;obtain rfl:=k3 (by simp[a6]);refine qm.enter hK rfl rfl (by k_ne) rfl Tryz.func182 (by kernel_rfl) rfl ?_
   walk_nrmf Tryz.f182
   refine qm.seq hK ?_;refine qm.region hK ?_;simp only[qhk,qh1,qh7,qhj,qhd,qhl,qi0];refine qm.value hK (.int .u32 0) rfl rfl (by k_ne) (λ_=>by go_simp) (λ_=>by simp[go_sem]) ?_;walk_nrm;refine qm.region_end hK ?_;refine qm.seq hK ?_;refine qm.seq hK ?_;refine qm.region hK ?_;simp only[qhk,qh1,qh7,qhj,qhd,qhl,qi0];refine qm.value hK (.bool true) rfl rfl (by k_ne) (λ_=>by go_simp) (λ_=>by simp[go_sem]) ?_;walk_nrm;refine qm.region_end hK ?_;refine qm.cond hK true rfl ?_;simp only[if_true];refine qm.seq hK ?_;refine qm.region hK ?_;simp only[qhk,qh1,qh7,qhj,qhd,qhl,qi0];refine qm.value hK (.int .u32 1) rfl rfl (by k_ne) (λ_=>by go_simp) (λ_=>by simp[go_sem]) ?_;walk_nrm;refine qm.region_end hK ?_;refine qm.retS hK ?_;refine qm.leave1 hK rfl rfl Tryz.func182 rfl ?_;walk_nrm;exact a7 _ ⟨by simpa[gs] using c1,by simpa[gs] using c2,by simp[gs,a6],by simpa[gs] using c5,T4,T5,T6,_,_,rfl,by simpa[gs] using k0,by simpa[gs] using k1,by simpa[gs] using k2,λ_=>rfl,λ_=>rfl⟩
  ·have a6:=zw hi rfl;simp[qhH] at a6;have d2:l[2]?.getD false=true:=by simp[a6]
   have d4:l[4]?.getD false=true:=by simp[a6]
   have d1:=c2 d2;have d0:=c1 d1;have d3:=c4 d4;obtain rfl:=k0 d0;obtain rfl:=k1 d1;obtain rfl:=k2 d2;obtain rfl:=k3 d3;obtain rfl:=k4 d4;have hr:rest=[]:=a8 (by
    simp only[qh8,List.filter_eq_nil_iff,qj3,qh9,qjz,not_and];intro j hj hn;exfalso;have b8:j<6:=hj;have hjs:j<(l.setIfInBounds 5 true).size:=by simp;omega
    have e:(l.setIfInBounds 5 true)[j]?.getD false=true:=by
     rw[gs 5 j (by omega)];obtain rfl | rfl | rfl | rfl | rfl | rfl:j=0\/j=1\/j=2\/j=3\/j=4\/j=5:=by omega
     all_goals simp[d0,d1,d2,d3,d4]
    simp only[qii,qhg hjs,qgD] at hn e;rw[hn] at e;cases e)
   subst hr;exact qm.stop hstop
 ·rintro l a hl ⟨c1,c2,c4,c5,T4,T5,T6,T7,T8,rfl,k0,k1,k2,k3,k4⟩ hr;have q0:=zX hr hl (i:=0) rfl (by simp[qhH]);have q1:=zX hr hl (i:=1) rfl (by simp[qhH,q0]);have q2:=zX hr hl (i:=2) rfl (by simp[qhH,q1]);have q3:=zX hr hl (i:=3) rfl (by simp[qhH]);have q4:=zX hr hl (i:=4) rfl (by simp[qhH,q3]);have q5:=zX hr hl (i:=5) rfl (by simp[qhH,q2,q4]);rw[c5] at q5;cases q5
end
end
section
open Go Go.RowKit Go.Conc Go.ConcN Go.ConcN.Gen Go.Conc.Lib Go.ConcR.Gen Go.Co Go.Sim
def jt(Wg Nx A Fd Y V B:Nat):Array qgx:=#[pt Wg,pt Nx,pt A,pt Fd,pt Y,pt V,pt B]
def KN(Wg Nx A Fd Y V B:Nat):qiE:={ target:=.fn (.func 139) (jt Wg Nx A Fd Y V B),args:=#[] }
def tm0(Wg Nx A Fd Y V B:Nat):Array qgx:=#[pt Wg,pt Nx,pt A,pt Fd,pt Y,pt V,pt B]++qhC 53 qgz
section
variable{Fz:Bs}{K:qgt->qgt->Prop}{Stop:Bs->qgy->qgt->Prop}{S:Bs}(hK:∀a b c,K a b->K b c->K a c)
include hK
theorem q5g{Wg Nx A Fd Y V B:Nat}{w:qgt}(hend:qm qh3 Fz K Stop S (G ((qip 139).at ⟨tm0 Wg Nx A Fd Y V B,dn Wg⟩ (.code wLB::jw)) [bot]) w) :qm qh3 Fz K Stop S (born qh3 (KN Wg Nx A Fd Y V B)) w:=by
 have hstep:∀w,qi4 qh3 false (born qh3 (KN Wg Nx A Fd Y V B)) w=.go (G ((qip 139).at ⟨tm0 Wg Nx A Fd Y V B,[]⟩ [.code (Tryz.f139.body.getD .skip)]) [bot]) w #[]:=by
  intro w;simp[born,KN,jt,qi4,qle,qj0,invoke,callFunc,qoG,ql9,seen,qi9,G,qhy,Frame.at,qip,bot,tm0];rfl
 refine qm.pure hK rfl hstep ?_;simp only[wLB,jw,ql9,qgD,sqA,sqB,inn] at hend ⊢;refine qm.seq hK ?_;refine qm.region hK ?_;simp only[qhk,qh1,qh7,qhj,qhd,qhl,qi0];refine qm.pure hK rfl (λw=>stepG_defer rfl rfl (by k_ne) rfl) ?_;refine qm.region_end hK ?_;refine qm.block hK ?_;refine qm.loop hK ?_;have e:Act.put ⟨tm0 Wg Nx A Fd Y V B,[qr2 140 (Array.map (Act.eval ⟨tm0 Wg Nx A Fd Y V B,[]⟩) #[Operand.tmp 0])]⟩ none qgz=⟨tm0 Wg Nx A Fd Y V B,dn Wg⟩:=by
  simp[Act.put,dn,Act.eval,tm0]
 rw[<- e] at hend;exact hend
end
end
section
open Go Go.RowKit Go.Conc Go.ConcN Go.ConcN.Gen Go.Conc.Lib Go.ConcR.Gen Go.Co Go.Sim
theorem q7E(T:Array qgx)(todo:List qkz):qo8 qh3 2 0 (G { (qip 139).at ⟨T,[]⟩ todo with mode:=.returning } [bot]):=by
 refine QuitsD.ctl (g':=G bot []) rfl (λw=>?_) ?_
 ·simp[G,qi4,qle,qj4,qk1,Frame.at,qip,bot,qoG,ql9,seen,qi9,qpc];try rfl
 refine QuitsD.ctl (g':={ G bot [] with status:=.finished }) rfl (λw=>?_) ⟨rfl,rfl⟩;simp[G,qi4,qle,bot,qpc,qok];rfl
section
variable{Fz:Bs}{K:qgt->qgt->Prop}{Stop:Bs->qgy->qgt->Prop}{S:Bs}(hK:∀a b c,K a b->K b c->K a c)
include hK
theorem qcw{Wg:Nat}{w:qgt}(hL:qjB 166 Wg w)(a7:∀w w₁,K w w₁->LR 166 Wg w w₁)(a6:∀g w,qfh qh3 166 Wg g w->Stop S g w)(tm:Array qgx)(todo:List qkz) :qm qh3 Fz K Stop S (G { (qip 139).at ⟨tm,dn Wg⟩ todo with mode:=.returning } [bot]) w:=by
 refine qm.pure hK rfl (λw=>stepG_unwind_enter (f:=140) (ds:=[]) rfl JZ.f_done (nm_done link) rfl) ?_;have:=Go.Co.done (L:=link) (Wg:=Wg) (cs:=[bot]) (qt:=2) JZ (c:={ (qip 139).at ⟨tm,[]⟩ todo with mode:=.returning }) rfl (q7E tm todo) w hL;exact qm.of_goes2 (λa b h=>a7 a b h.k) (λw=>LR.refl w) a6 this
end
end
section
open Go Go.Sim
def lst:List Nat:=[3,4,5,6,7,8,9,10,11,12,13,14,15,16,17,18,19,20,21,22,23,24,25,26,27,28,29,30,31,32,33,34,35,36,37,38,39,40,41,42,43,44,45,46,47,48,49,50,51,52,53,54,55,56,57,58,59,60,61,62,63,64,65,66,67,68,69,70,71,72,73,74,75,76,77,78,79,80,81,82,83,84,85,86,87,88,89,90,91,92,93,94,95,96,97,98,99,100,101,102,103,104,105,106,107,108,109,110,111,112,113,114,115,116,117,118,119,120,121,122,123,124,125,126,127,128,129,130,131,132,133,134,135,136,137,145,146,147,148,149,150,151,152,153,154,155,156,157,158,159,160,161,162,163,164,165,182,188,189,190,191,192,193,194,195,196,197,198,199,200,206,207,208,209,210,211,212,213,214,215,216,217,218,219,220,221,222,223,224,241,242]
noncomputable def ls:Lets:=⟨λf=>lst.contains f,λn=>n == "gladstone/pile.holds",λb ts=>biB Ya b ts⟩
theorem qd0{f:Nat}(h:ls.f f=true):f∈lst:=by
 have:lst.contains f=true:=h;simpa using this
theorem qf8:(lst.all λf=>qdb Ya qh3 ls f)=true:=by kernel_rfl
theorem qf7:(lst.all λf=>qdb Ya Ya ls f)=true:=by kernel_rfl
theorem q4l:(lst.all λf=>qby Ya ls f)=true:=by kernel_rfl
def qdD(Q:qgG)(s:Lets)(n:String)(t:Nat):Bool:=match Q.info? t with
 | none=>true
 | some i=>match i.methods.find? (·.name == n) with
  | none=>true
  | some m=>m.path.isEmpty && (match m.func with | some (f,b)=>s.f f && (b || (match Q.underlying t with | some (.pointer _)=>false | _=>true)) | none=>false)
theorem q33{f:qh5->Option qli}{d:TypeDesc}{i:qli}(h:Made.reckon f d=some i):i.methods=#[]:=by
 unfold Made.reckon at h;split at h
 ·obtain⟨j,-,h⟩:=qi6.1 h;split at h
  ·cases h
  ·split at h
   ·cases h
   ·obtain⟨x,-,h⟩:=qi6.1 h;cases h;rfl
  ·obtain⟨x,-,h⟩:=qi6.1 h;cases h;rfl
 ·obtain⟨j,-,h⟩:=qi6.1 h;obtain⟨x,-,h⟩:=qi6.1 h;cases h;rfl
 ·obtain⟨j,-,h⟩:=qi6.1 h;obtain⟨x,-,h⟩:=qi6.1 h;obtain⟨x,-,h⟩:=qi6.1 h;obtain⟨x,-,h⟩:=qi6.1 h;cases h;rfl
 ·obtain⟨j,-,h⟩:=qi6.1 h;obtain⟨x,-,h⟩:=qi6.1 h;cases h;rfl
 ·obtain⟨j,-,h⟩:=qi6.1 h;cases h;rfl
 ·obtain⟨j,-,h⟩:=qi6.1 h;obtain⟨x,-,h⟩:=qi6.1 h;cases h;rfl
 ·unfold Made.reckonStruct at h;obtain⟨r,-,h⟩:=qi6.1 h;split at h<;>(dsimp only at h;split at h<;>(cases h;rfl))
 ·cases h
theorem q8f{P:qgG}{t:Nat}{i:qli}(h:P.info? t=some i):t<P.types.size\/i.methods=#[]:=by
 by_cases ht:t<P.types.size
 ·exact .inl ht
 ·have h':Tables.info? P.toTables t=some i:=h;unfold Tables.info? at h';rw[if_neg ht] at h';unfold Made.depth Made.infoAt at h';rw[if_neg ht] at h';obtain⟨d,-,h2⟩:=qi6.1 h';exact .inr (q33 h2)
theorem qg9:((qhl Ya.types.size).all (qdD Ya ls "gladstone/pile.holds"))=true:=by kernel_rfl
theorem q6y:∀n,ls.m n=true->∀t i m,Ya.info? t=some i->i.methods.find? (·.name == n)=some m->m.path=#[]/\∃f b,m.func=some (f,b)/\ls.f f=true/\∀e,Ya.underlying t=some (.pointer e)->b=true:=by
 intro n hn t i m hi hf;obtain rfl:n = "gladstone/pile.holds" := by simpa[ls] using hn
 have ht:t<Ya.types.size:=(q8f hi).resolve_right λe=>by rw[e] at hf;cases hf
 have h:=qhE.1 qg9 t (qj3.2 ht);unfold qdD at h;rw[hi] at h;dsimp only at h;rw[hf] at h;dsimp only at h;obtain⟨h1,h2⟩:=qpd.1 h;refine⟨by simpa using h1,?_⟩;cases hm:m.func with
 | none=>rw[hm] at h2;cases h2
 | some fb=>
  obtain⟨f,b⟩:=fb;rw[hm] at h2;dsimp only at h2;obtain⟨h3,h4⟩:=qpd.1 h2;refine⟨f,b,rfl,h3,λe he=>?_⟩;rw[he] at h4;simpa using h4
theorem ne85:Ya.funcs[85]?≠Tryz.prog.funcs[85]?:=by
 intro h;have h1:(Ya.funcs[85]?).map (λf=>f.body.isNone || (match f.body with | some (.exit _)=>true | _=>false))=some true:=by kernel_rfl
 rw[h] at h1;have h2:(Tryz.prog.funcs[85]?).map (λf=>f.body.isNone || (match f.body with | some (.exit _)=>true | _=>false))=some false:=by kernel_rfl
 rw[h2] at h1;cases h1
theorem zh(f:Nat)(h:f≠85):Ya.funcs[f]?=Tryz.prog.funcs[f]?:=by
 unfold Ya;dsimp only;rw[qhB,if_neg (λe=>h e.symm)]
theorem qe2(jk:Nat->Prop):@Duo (JS Ya qh3 ls jk) Ya qh3:=by
 refine qbo rfl (by kernel_rfl) (by kernel_rfl) (λb ts h=>h) (λf h=>?_) (λf h hs=>?_) q6y
 ·exact qhE.1 qf8 f (qd0 h)
 ·exact qhE.1 q4l f (qd0 h)
theorem qe1(jk:Nat->Prop):@Duo (JS Ya Ya ls jk) Ya Ya:=by
 refine qbo rfl (by kernel_rfl) (by kernel_rfl) (λb ts h=>h) (λf h=>?_) (λf h hs=>?_) q6y
 ·exact qhE.1 qf7 f (qd0 h)
 ·exact qhE.1 q4l f (qd0 h)
theorem qfp(Q P:qgG)(s:Lets)(jk:Nat->Prop):Up (JS Q P s jk) (JS Q Q s jk) :=
 ⟨λ_ h=>h,λ_ h=>h,λ_ _ h=>h,λ_ h=>h,λ_ ⟨⟨g,h1,_⟩,h2⟩=>⟨⟨g,h1,h1⟩,h2⟩,rfl⟩
theorem up(jk:Nat->Prop):Up (JS Ya qh3 ls jk) (JS Ya Ya ls jk):=qfp _ _ _ _
theorem q9s:∀fk,Ya.funcs[fk]?≠Tryz.prog.funcs[fk]?->∀a k cs u,∃o w es,qi4 Ya true { frame:=qhy Ya fk a k,callers:=cs,status:=.running,dying:=none } u true=.ended o w es:=by
 intro fk h a k cs u;have e:fk=85:=qin λhn=>h (zh fk hn);subst e;have hb:(Ya.funcs[85]?).bind (·.body)=some (.exit 0):=by kernel_rfl
 unfold qhy;dsimp only;rw[hb];exact⟨_,_,_,rfl⟩
theorem hrf:Tryz.prog.follows .rangeFuncRecover=true:=by kernel_rfl
end
end Go.Proofs.YtidgnkmjgioapaaGreat
section
namespace Go.Co
open Go Go.Sim
def frz:Obj->Obj
 | .cells c e f=>.cells c e (0,max c.size f.2)
 | _=>.cells #[] 0
noncomputable def Jn(Q:qgG)(W:qgt)(nds jks:List Nat)(b:Nat):Obj :=
 if b∈jks then qeE Q else if b∈nds then(match W.heap[b]? with | some o=>frz o | none=>.cells #[] 0) else .cells #[] 0
noncomputable def lw(Q:qgG)(W:qgt)(nds jks:List Nat):qgt:={ W with heap:=(qkA W.heap.size).map (Jn Q W nds jks) }
def lr(n:Nat)(nds jks:List Nat):Ren:=(qhl n).map λb=>if b∈nds\/b∈jks then some b else none
section
variable{Q:qgG}{W:qgt}{nds jks:List Nat}
theorem q6A:(lw Q W nds jks).heap.size=W.heap.size:=by simp[lw]
theorem q1v{b:Nat}(h:b<W.heap.size):(lw Q W nds jks).heap[b]?=some (Jn Q W nds jks b):=by simp[lw,h]
theorem Jz{n i j:Nat}:BR (lr n nds jks) i j↔i<n/\i=j/\(i∈nds\/i∈jks):=by
 unfold BR lr;rw[qis];by_cases h:i<n
 ·rw[qlt h];simp only[qij,qht,h,true_and];split
  ·rename_i hm;simp[hm]
  ·rename_i hm;simp[hm]
 ·rw[qi5 (by simp;omega)];simp[h]
theorem q6C{b:Nat}{cs:Array qgx}{e:qh5}{f:Nat × Nat}(hb:b∈nds)(hj:b∉jks)(h:W.heap[b]?=some (.cells cs e f)):(lw Q W nds jks).heap[b]?=some (.cells cs e (0,max cs.size f.2)):=by
 rw[q1v (qgu.1 h).1];unfold Jn;rw[if_neg hj,if_pos hb,h];rfl
theorem qfF[J:JunkSet]{w:qgt}(a7:∀i,JunkSet.jk i↔i∈jks)(hg:Q.globals.size=0)(hd:∀b∈nds,b∉jks)(hn:∀b∈nds,b<W.heap.size)(hj:∀b∈jks,b<W.heap.size)(hok:∀b∈nds,∃cs e f,W.heap[b]?=some (.cells cs e f)/\∀(i:Nat) (v:qgx),cs[i]?=some v->VR (lr W.heap.size nds jks) v v)(hw:∀b∈nds,w.heap[b]?=W.heap[b]?)(hs:W.heap.size<=w.heap.size)(ho:w.os=W.os)(a8:∀b∈jks,∃c e f,w.heap[b]?=some (.cells c e f)) :WR Q W.heap.size (lr W.heap.size nds jks) (lw Q W nds jks) w where
 len:=by simp[lr,lw]
 nodup:=λi i' j h h'=>by rw[Jz] at h h';omega
 lt:=λi j h=>by rw[Jz] at h;omega
 obj:=λi j o h hx=>by
  rw[Jz] at h;obtain⟨h1,rfl,h2⟩:=h;rw[q1v h1] at hx;cases hx;by_cases hm:i∈jks
  ·refine .inl ⟨(a7 i).2 hm,by unfold Jn;rw[if_pos hm],by omega,a8 i hm⟩
  ·have a6:i∈nds:=h2.resolve_right hm;obtain⟨cs,e,f,hc,hv⟩:=hok i a6;refine .inr ⟨λk=>hm ((a7 i).1 k),.cells cs e f,by rw[hw i a6,hc],?_⟩;have:Jn Q W nds jks i=.cells cs e (0,max cs.size f.2):=by
    unfold Jn;rw[if_neg hm,if_pos a6,hc];rfl
   rw[this];exact .cells e ⟨rfl,λk x y hx hy=>by rw[hx] at hy;cases hy;exact hv k x hx⟩ λo h1 h2=>by omega
 low:=λi hi=>by
  rw[q1v hi];unfold Jn;split
  ·exact⟨_,_,_,rfl,λo ho=>by simp at ho⟩
  ·split
   ·split
    ·rename_i o ho
     cases o with
     | cells c e f=>exact⟨_,_,_,rfl,λo ho=>by simp;omega⟩
     | _=>exact⟨_,_,_,rfl,λo ho=>by simp at ho⟩
    ·exact⟨_,_,_,rfl,λo ho=>by simp at ho⟩
   ·exact⟨_,_,_,rfl,λo ho=>by simp at ho⟩
 env:=by show W.os.env=w.os.env;rw[ho]
 below:=λi hi=>hj i ((a7 i).1 hi)
 gar:=λi o hx=>by
  right;have hi:i<W.heap.size:=by
   have:=(qgu.1 hx).1
   rwa [q6A] at this
  rw[q1v hi] at hx;cases hx;unfold Jn;split
  ·rfl
  ·split
   ·split
    ·rename_i o _;cases o<;>rfl
    ·rfl
   ·rfl
end
end Go.Co
namespace Go.Proofs.YtidgnkmjgioapaaGreat
open Go Go.Co Go.Sim
section
variable{Q:qgG}{W:qgt}{nds jks:List Nat}{lo hi:Nat}
theorem xg{b o:Nat}{cs:Array qgx}{e:qh5}{f:Nat × Nat}{v:qgx}(hb:b∈nds)(hj:b∉jks)(h:W.heap[b]?=some (.cells cs e f))(hv:cs[o]?=some v):(lw Q W nds jks).cell? ⟨b,o,none⟩=some v :=
 q9 (q6C hb hj h) hv
theorem q6D{v:qgx}{l:List Int}(h:qe lo hi W v l)(hd:∀b∈nds,b∉jks)(hb:∀B o n c,v=.slice (some ⟨B,o,none⟩) n c->l≠[]->B∈nds):qe lo hi (lw Q W nds jks) v l:=by
 obtain⟨base,cap,rfl,hl,hr⟩:=h;refine⟨base,cap,rfl,hl,λhne=>?_⟩;obtain⟨B,o,cs,fr,rfl,e2,e3,e4,e5⟩:=hr hne;have hB:=hb B o _ _ rfl hne;exact⟨B,o,cs,_,rfl,e2,e3,q6C hB (hd B hB) e4,e5⟩
theorem q6B{v:qgx}{ps:List Par}(h:qw lo hi W v ps)(hd:∀b∈nds,b∉jks)(hb:∀B o n c,v=.slice (some ⟨B,o,none⟩) n c->ps≠[]->B∈nds):qw lo hi (lw Q W nds jks) v ps:=by
 obtain⟨base,cap,rfl,hl,hr⟩:=h;refine⟨base,cap,rfl,hl,λhne=>?_⟩;obtain⟨B,o,cs,fr,rfl,e2,e3,e4,e5⟩:=hr hne;have hB:=hb B o _ _ rfl hne;exact⟨B,o,cs,_,rfl,e2,e3,q6C hB (hd B hB) e4,e5⟩
theorem qaw{v:qgx}{n:Nat}{c:Nat->Nat->Int}(h:kV lo hi W v n c)(hd:∀b∈nds,b∉jks)(hb:∀B o n' c,v=.slice (some ⟨B,o,none⟩) n' c->0<n->B∈nds):kV lo hi (lw Q W nds jks) v n c:=by
 obtain⟨base,cap,rfl,hl,hr⟩:=h;refine⟨base,cap,rfl,hl,λhne=>?_⟩;obtain⟨B,o,cs,ty,fr,rfl,e2,e3,e4,e5⟩:=hr hne;have hB:=hb B o _ _ rfl hne;exact⟨B,o,cs,ty,_,rfl,e2,e3,q6C hB (hd B hB) e4,e5⟩
end
end Go.Proofs.YtidgnkmjgioapaaGreat
end
section
namespace Go.Proofs.YtidgnkmjgioapaaGreat
open Go Go.RowKit Go.Conc Go.ConcN Go.ConcN.Gen Go.Conc.Lib Go.ConcR.Gen Go.Co Go.Sim
inductive Lam | st | ld (i:Nat) | wk (i:Nat) | fn
structure Ph4 where
 W1:qgt
 clA:Nat->Cl
 lo:Nat
 Wg:Nat
 Nx:Nat
 A:Nat
 Fd:Nat
 Y:Nat
 V:Nat
 B:Nat
 ps:List Par
 lim:Int
 l:List Int
 wl:List Int
 N:Nat
 c:Nat->Nat->Int
 yb:Option qi2
 yc:Nat
 ab:Option qi2
 ac:Nat
 pv:qgx
 vv:qgx
 nds:List Nat
 Post:qgx->qgt->Prop
 Fin:qgy->qgt->Prop
 AnchW:qgy->qgt->Prop
namespace Ph4
variable(x:Ph4)
def jks:List Nat:=[x.Wg,x.Nx,x.Fd]
def jk(b:Nat):Prop:=b∈x.jks
@[reducible] noncomputable def js:JunkSet:=JS Ya qh3 ls x.jk
def Fz(b:Nat):Prop:=b<x.W1.heap.size/\x.clA b=.ro x.lo
def Sy(b:Nat):Prop:=b=x.Nx\/b=x.Fd
def DataAt(W:Nat × Bool)(w:qgt):Prop:=w.heap[x.Nx]?=some (.cells #[.int .i64 W.1] 158 (0,0))/\w.heap[x.Fd]?=some (.cells #[.int .u32 (if W.2 then 1 else 0)] 161 (0,0))
def Liv(w:qgt):Prop:=qjB 166 x.Wg w/\∃W,x.DataAt W w
def K(w w₁:qgt):Prop:=(qjB 166 x.Wg w->qjB 166 x.Wg w₁)/\((∃W,x.DataAt W w)->∃W,x.DataAt W w₁)
def gn:Nat->Int:=pre Par.mn x.ps x.ps.length
def gx:Nat->Int:=pre Par.mx x.ps x.ps.length
def bad(i:Nat):Bool:=qu x.ps (ovr (x.c i) x.gn x.wl x.wl.length) x.l && !qu x.ps (ovr (x.c i) x.gx x.wl x.wl.length) x.l
noncomputable def w0:qgt:=lw Ya x.W1 x.nds x.jks
def r0:Ren:=Go.Co.lr x.W1.heap.size x.nds x.jks
def tmp0:Array qgx:=tm0 x.Wg x.Nx x.A x.Fd x.Y x.V x.B
structure Ok:Prop where
 hlo:1<=x.lo
 hY:x.W1.heap[x.Y]?=some (.cells #[.slice x.yb x.ps.length x.yc,.int .i64 x.lim] 91 (0,0))
 hV:x.W1.heap[x.V]?=some (.cells #[x.vv] 29 (0,0))
 hB:x.W1.heap[x.B]?=some (.cells #[x.pv] 29 (0,0))
 hA:x.W1.heap[x.A]?=some (.cells #[.slice x.ab x.N x.ac] 152 (0,0))
 pars:qw 0 x.W1.heap.size x.W1 (.slice x.yb x.ps.length x.yc) x.ps
 ints:qe 0 x.W1.heap.size x.W1 x.vv x.wl
 intp:qe 0 x.W1.heap.size x.W1 x.pv x.l
 cas:kV 0 x.W1.heap.size x.W1 (.slice x.ab x.N x.ac) x.N x.c
 n5:x.ps.length<=5
 bmn:∀i,0<=x.gn i/\x.gn i<=1000
 bmx:∀i,0<=x.gx i/\x.gx i<=1000
 bc:∀i d,0<=x.c i d/\x.c i d<=1000
 hl:∀y∈x.l,0<=y/\y<x.ps.length
 ll:x.l.length<=1000
 hwl:∀y∈x.wl,0<=y/\y<5
 hN:x.N<=900000
 jlt:∀b∈x.jks,b<x.W1.heap.size
 ne1:x.Nx≠x.Fd
 ne2:x.Wg≠x.Nx
 ne3:x.Wg≠x.Fd
 sync:∀b∈x.jks,x.clA b=.sync
 nro:∀b∈x.nds,x.clA b=.ro x.lo
 nok:∀b∈x.nds,∃cs e f,x.W1.heap[b]?=some (.cells cs e f)/\∀(i:Nat) (v:qgx),cs[i]?=some v->@VR x.js x.r0 v v
 n0:0∈x.nds
 nY:x.Y∈x.nds
 nV:x.V∈x.nds
 nB:x.B∈x.nds
 nA:x.A∈x.nds
 nyb:∀B o n c,qhw x.yb x.ps.length x.yc=.slice (some ⟨B,o,none⟩) n c->x.ps≠[]->B∈x.nds
 nvv:∀B o n c,x.vv=.slice (some ⟨B,o,none⟩) n c->x.wl≠[]->B∈x.nds
 npv:∀B o n c,x.pv=.slice (some ⟨B,o,none⟩) n c->x.l≠[]->B∈x.nds
 nab:∀B o n c,qhw x.ab x.N x.ac=.slice (some ⟨B,o,none⟩) n c->0<x.N->B∈x.nds
 cla0:∀b,x.W1.heap.size<=b->x.clA b=.mine 0
structure Cm(w:qgt):Prop where
 liv:x.Liv w
 fz:∀b,x.Fz b->w.heap[b]?=x.W1.heap[b]?
 size:x.W1.heap.size<=w.heap.size
 os:w.os=x.W1.os
structure Wk(S:Bs)(Z:Ren)(a:Act)(tm:Array qgx)(wq w:qgt):Prop where
 rel:@qfe x.js Ya qh3 x.W1.heap.size x.Fz S x.jk (λb=>b<x.W1.heap.size) Z a tm wq w
 le:Le x.r0 Z
 gr:x.w0.grownBy (wq.tp x.w0.tape) none
 sz:a.tmps.size=60
 cap:∀k,k<7->a.tmps[k]?=x.tmp0[k]?
def WA(l:Lam)(S:Bs)(g:qgy)(w:qgt):Prop:=x.Cm w/\match l with
 | .st=>(g=born qh3 (KN x.Wg x.Nx x.A x.Fd x.Y x.V x.B)/\∀b,¬ S b) \/
   ∃Z a tm wq,x.Wk S Z a tm wq w/\g=G ((qhf 143).at ⟨#[pt x.Fd,.bool true,qgz,qgz,pt x.Fd,pt x.Fd,pt x.Fd,.bool true,.int .u32 1,.tuple #[]],[]⟩ [.inRegion JG []]) [f10 tm (dn x.Wg),bot]
 | .ld i=>i<x.N/\∃Z a tm wq,x.Wk S Z a tm wq w/\g=G ((qhf 141).at ⟨#[pt x.Nx,.int .i64 1,qgz,qgz,.int .i64 0,pt x.Nx,pt x.Nx,pt x.Nx,.int .i64 1,.int .i64 (i+1)],[]⟩ [.inRegion Z1 [5],.code .ret]) [f1 tm (dn x.Wg),bot]
 | .wk i=>i<x.N/\∃Z a tm wq,x.Wk S Z a tm wq w/\a.tmps[7]?=some (.int .i64 i)/\a.tmps[18]?=some (.bool false)/\g=G ((qhf 142).at ⟨#[pt x.Fd,qgz,.bool false,pt x.Fd,pt x.Fd,pt x.Fd,.int .u32 0,qgz],[]⟩ [.inRegion Z0 [4,5],.code .ret]) [f2 tm (dn x.Wg),bot]
 | .fn=>∃Z a tm wq,x.Wk S Z a tm wq w/\((∃i:Nat,x.N<=i/\i<=1000000/\g=G ((qhf 141).at ⟨#[pt x.Nx,.int .i64 1,qgz,qgz,.int .i64 0,pt x.Nx,pt x.Nx,pt x.Nx,.int .i64 1,.int .i64 (i+1)],[]⟩ [.inRegion Z1 [5],.code .ret]) [f1 tm (dn x.Wg),bot]) \/
   (a.tmps[18]?=some (.bool false)/\g=G ((qhf 142).at ⟨#[pt x.Fd,qgz,.bool false,pt x.Fd,pt x.Fd,pt x.Fd,.int .u32 1,qgz],[]⟩ [.inRegion Z0 [4,5],.code .ret]) [f2 tm (dn x.Wg),bot]))
def fin:Lam->Prop | .fn=>True | _=>False
def Tr(W:Nat × Bool)(l:Lam)(γ':Nat × Bool)(l':Lam):Prop :=
 ((l=.st\/∃i,l=.wk i/\x.bad i=false)/\γ'=(W.1+1,W.2)/\l'=(if W.1<x.N then .ld W.1 else .fn)) \/
 (∃i,l=.ld i/\γ'=W/\l'=(if W.2 then .fn else .wk i)) \/
 (∃i,l=.wk i/\x.bad i=true/\i<x.N/\γ'=(W.1,true)/\l'=.st)
def JH:Lam->Bool | .fn=>true | _=>false
def xw:Nat->(Nat->Lam)->Nat
 | 0,_=>0
 | j+1,ls=>xw j ls+(if JH (ls j) then 1 else 0)
def J(W:Nat × Bool)(j:Nat)(ls:Nat->Lam):Prop :=
 W.1<=x.N+xw j ls/\(W.2=true->∃i,i<x.N/\x.bad i=true)/\(W.2=false->∀i,i<x.N->i<W.1->x.bad i=false\/∃k,k<j/\(ls k=.ld i\/ls k=.wk i))/\(∀k,k<j->ls k=.fn->W.2=true\/x.N<=W.1)
def m(W:Nat × Bool):Nat:=3*(x.N - W.1)
def nu:Lam->Nat | .fn=>0 | .st=>1 | .wk _=>2 | .ld _=>3
noncomputable def cfg:Cfg (Nat × Bool) Lam where
 P:=qh3
 ty:=166
 Wg:=x.Wg
 lo:=x.lo
 n:=min 4 x.N
 Fz:=x.Fz
 Sy:=x.Sy
 clA:=x.clA
 DataAt:=x.DataAt
 WA:=x.WA
 Tr:=x.Tr
 J:=x.J
 m:=x.m
 nu:=nu
 l0:=.st
 fin:=fin
 W1:=x.W1
 Fin:=x.Fin
 AnchW:=x.AnchW
 Post:=x.Post
end Ph4
end Go.Proofs.YtidgnkmjgioapaaGreat
end
section
namespace Go.Proofs.YtidgnkmjgioapaaGreat
open Go Go.RowKit Go.Conc Go.ConcN Go.ConcN.Gen Go.Conc.Lib Go.ConcR.Gen Go.Co Go.Sim
namespace Ph4
section
variable{x:Ph4}{S:Bs}{w w₁:qgt}{Z:Ren}{a:Act}{tm:Array qgx}{wq:qgt}
theorem kt:∀a b c,x.cfg.K a b->x.cfg.K b c->x.cfg.K a c:=Cfg.K.trans
theorem Cm.rely(h:x.Cm w)(r:RC x.Fz x.cfg.K S w w₁):x.Cm w₁ :=
 ⟨⟨r.k.1 h.liv.1,r.k.2 h.liv.2⟩,λb hb=>(r.fz b hb).trans (h.fz b hb),qgE h.size r.size,r.os.trans h.os⟩
theorem Liv.cells(h:x.Liv w){b:Nat}(hb:b∈x.jks):∃c e f,w.heap[b]?=some (.cells c e f):=by
 obtain⟨⟨st,sm,hw⟩,W,h1,h2⟩:=h;unfold jks at hb;simp only[qif,qiD,or_false] at hb;rcases hb with rfl | rfl | rfl
 ·exact⟨_,_,_,hw⟩
 ·exact⟨_,_,_,h1⟩
 ·exact⟨_,_,_,h2⟩
theorem Wk.to(h:x.Wk S Z a tm wq w)(hk:∀b,x.Fz b\/S b->w₁.heap[b]?=w.heap[b]?)(hs:w.heap.size<=w₁.heap.size)(ho:w₁.os=w.os)(hl:x.Liv w₁):x.Wk S Z a tm wq w₁:=by
 letI:JunkSet:=x.js
 exact{ h with rel:=⟨h.rel.len,h.rel.wr.rely hs (by rw[ho]) (λi j hij a6=>by
    rcases qiA i x.W1.heap.size with hlt | hge
    ·exact hk j (.inl (h.rel.own.low i j hij hlt a6))
    ·exact hk j (.inr (h.rel.own.own i j hij hge))) (λi j hij a6=>hl.cells (h.rel.jb i j hij a6)),h.rel.gl,h.rel.tm,h.rel.df,h.rel.own,h.rel.jb,h.rel.js⟩ }
theorem Wk.rely(h:x.Wk S Z a tm wq w)(hc:x.Cm w)(r:RC x.Fz x.cfg.K S w w₁):x.Wk S Z a tm wq w₁ :=
 h.to (λb hb=>hb.elim (r.fz b) (r.own b)) r.size r.os (hc.rely r).liv
theorem Wk.set(h:x.Wk S Z a tm wq w)(i:Nat)(hi:7<=i){u v:qgx}(hv:@VR x.js Z u v):x.Wk S Z ⟨a.tmps.setIfInBounds i u,a.defers⟩ (tm.setIfInBounds i v) wq w:=by
 letI:JunkSet:=x.js
 exact{ h with
  rel:=⟨h.rel.len,h.rel.wr,h.rel.gl,@AsR.set x.js _ _ _ h.rel.tm i _ _ hv,h.rel.df,h.rel.own,h.rel.jb,h.rel.js⟩
  sz:=by simp[h.sz]
  cap:=λk hk=>by
   show(a.tmps.setIfInBounds i u)[k]?=_;rw[qi3 (by omega)];exact h.cap k hk }
theorem br0{b:Nat}(hb:b∈x.nds\/b∈x.jks)(hlt:b<x.W1.heap.size):BR x.r0 b b:=Jz.2 ⟨hlt,rfl,hb⟩
theorem Wk.ptr(h:x.Wk S Z a tm wq w){k b:Nat}(hk:a.tmps[k]?=some (pt b))(hb:BR x.r0 b b):tm[k]?.getD qgz=pt b:=by
 letI:JunkSet:=x.js
 obtain⟨y,hy,hv⟩:=@AsR.get x.js _ _ _ h.rel.tm k _ hk;rw[hy];unfold pt at hv ⊢;cases hv with
 | ptr off spot hij=>rw[BR.fn hij (hb.mono h.le)];rfl
theorem Wk.bool(h:x.Wk S Z a tm wq w){k:Nat}{t:Bool}(hk:a.tmps[k]?=some (.bool t)):tm[k]?.getD qgz=.bool t:=by
 letI:JunkSet:=x.js
 obtain⟨y,hy,hv⟩:=@AsR.get x.js _ _ _ h.rel.tm k _ hk;rw[hy];cases hv;rfl
theorem Wk.tsz(h:x.Wk S Z a tm wq w):tm.size=60:=by
 letI:JunkSet:=x.js
 have h1:=h.rel.tm.1;rw[<- h1];exact h.sz
theorem Ok.fz(o:x.Ok){b:Nat}(hb:b∈x.nds):x.Fz b:=by
 obtain⟨cs,e,f,h,_⟩:=o.nok b hb;exact⟨(qgu.1 h).1,o.nro b hb⟩
theorem Ok.dj(o:x.Ok):∀b∈x.nds,b∉x.jks:=λb hb hj=>by
 have h1:=o.nro b hb;rw[o.sync b hj] at h1;cases h1
theorem Ok.ndlt(o:x.Ok){b:Nat}(hb:b∈x.nds):b<x.W1.heap.size:=(o.fz hb).1
theorem Ok.t1(o:x.Ok)(h:x.Wk S Z a tm wq w):tm[1]?.getD qgz=pt x.Nx:=h.ptr ((h.cap 1 (by omega)).trans (by simp[tmp0,tm0,qkg])) (br0 (.inr (by simp[jks])) (o.jlt _ (by simp[jks])))
theorem Ok.t2(o:x.Ok)(h:x.Wk S Z a tm wq w):tm[2]?.getD qgz=pt x.A:=h.ptr ((h.cap 2 (by omega)).trans (by simp[tmp0,tm0,qkg])) (br0 (.inl o.nA) (o.ndlt o.nA))
theorem Ok.t3(o:x.Ok)(h:x.Wk S Z a tm wq w):tm[3]?.getD qgz=pt x.Fd:=h.ptr ((h.cap 3 (by omega)).trans (by simp[tmp0,tm0,qkg])) (br0 (.inr (by simp[jks])) (o.jlt _ (by simp[jks])))
theorem Ok.cellA(o:x.Ok)(h:x.Cm w):w.cell? ⟨x.A,0,none⟩=some (.slice x.ab x.N x.ac):=q9 ((h.fz _ (o.fz o.nA)).trans o.hA) rfl
theorem Ok.vrA(o:x.Ok):@VR x.js x.r0 (.slice x.ab x.N x.ac) (.slice x.ab x.N x.ac):=by
 obtain⟨cs,e,f,h,hv⟩:=o.nok _ o.nA;rw[o.hA] at h;cases h;exact hv 0 _ rfl
end
end Ph4
end Go.Proofs.YtidgnkmjgioapaaGreat
end
section
namespace Go.Proofs.YtidgnkmjgioapaaGreat
open Go Go.RowKit Go.Conc Go.ConcN Go.ConcN.Gen Go.Conc.Lib Go.ConcR.Gen Go.Co Go.Sim
theorem Q9{w:qgt}{b o:Nat}{cs:Array qgx}{e:qh5}(h:w.heap[b]?=some (.cells cs e (0,0))):w.frozen? ⟨b,o,none⟩=false:=by
 simp[qkr,h]
theorem qd3{n:Nat}(h:n<=1000001):IntKind.i64.wrap (n:Int)=n:=qhm _ (by omega)
namespace Ph4
theorem qdk(j:Nat)(ls:Nat->Lam):xw j ls<=j:=by
 induction j with
 | zero=>exact qgw _
 | succ j ih=>unfold xw;split<;>omega
section
variable{x:Ph4}(o:x.Ok){S:Bs}{w:qgt}{Z:Ren}{a:Act}{tm:Array qgx}{wq:qgt}
include o
theorem Ok.fzne{b:Nat}(hb:x.Fz b){j:Nat}(hj:j∈x.jks):b≠j:=by
 rintro rfl;have h:=hb.2;rw[o.sync _ hj] at h;cases h
theorem Ok.after(hc:x.Cm w){b:Nat}(hb:b=x.Nx\/b=x.Fd)(v:qgx){γ':Nat × Bool}(hd:x.DataAt γ' (w.setCell ⟨b,0,none⟩ v)):x.Cm (w.setCell ⟨b,0,none⟩ v) where
 liv:=by
  obtain⟨st,sm,hw⟩:=hc.liv.1;refine⟨⟨st,sm,?_⟩,γ',hd⟩;show(w.setCell ⟨b,0,none⟩ v).heap[x.Wg]?=_;rw[qkp _ _ _ _ (by rcases hb with rfl | rfl;exact o.ne2;exact o.ne3)];exact hw
 fz:=λc a6=>by
  rw[qkp _ _ _ _ (o.fzne a6 (by rcases hb with rfl | rfl<;>simp[jks]))];exact hc.fz c a6
 size:=by simpa using hc.size
 os:=hc.os
theorem Ok.wkafter(hc:x.Cm w)(h:x.Wk S Z a tm wq w){b:Nat}(hb:b=x.Nx\/b=x.Fd)(v:qgx)(hl:x.Liv (w.setCell ⟨b,0,none⟩ v)):x.Wk S Z a tm wq (w.setCell ⟨b,0,none⟩ v):=by
 letI:JunkSet:=x.js
 have a7:b∈x.jks:=by rcases hb with rfl | rfl<;>simp[jks]
 refine h.to (λc a6=>?_) (by simp) rfl hl;refine qkp _ _ _ _ ?_;rcases a6 with a6 | a6
 ·exact o.fzne a6 a7
 ·rintro rfl;exact h.rel.js _ (o.jlt _ a7) a6
theorem Ok.sync1{l:Lam}(hl:l=.st\/∃i,l=.wk i/\x.bad i=false)(hc:x.Cm w)(h:x.Wk S Z a tm wq w) :x.cfg.Stop l S (G ((qhf 141).at ⟨#[pt x.Nx,.int .i64 1,qgz,qgz,.int .i64 0,pt x.Nx,pt x.Nx,pt x.Nx,.int .i64 1,qgz],[]⟩ [.inRegion Z1 [4,5],.code .ret]) (f1 tm (dn x.Wg)::[bot])) w:=by
 refine⟨rfl,.inr ⟨by rcases hl with rfl | ⟨i,rfl,_⟩<;>exact id,?_⟩⟩;rintro⟨c,b⟩ hd ⟨j,ls,hj,hJ⟩;have hγ:c<=x.N+4:=by
  have h1:c<=x.N+xw j ls:=hJ.1;have h3:=qdk j ls;have h2:j<=min 4 x.N:=hj;omega
 have hN:=o.hN;obtain⟨d1,d2⟩:=hd;have hcell:w.cell? ⟨x.Nx,0,none⟩=some (.int .i64 c):=q9 d1 rfl;have hz:=Q9 (o:=0) d1;have a8:IntKind.i64.wrap ((c:Int)+1)=c+1:=by have:=qd3 (n:=c+1) (by omega);simpa using this
 have a7:x.DataAt (c+1,b) (w.setCell ⟨x.Nx,0,none⟩ (.int .i64 (c+1))):=by
  refine⟨?_,?_⟩
  ·rw[qoh _ _ _ _ _ _ d1];simp
  ·rw[qkp _ _ _ _ (Ne.symm o.ne1)];exact d2
 have a6:=o.after hc (.inl rfl) (.int .i64 (c+1)) a7;have hk':=o.wkafter hc h (.inl rfl) (.int .i64 (c+1)) a6.liv;refine⟨G ((qhf 141).at ⟨#[pt x.Nx,.int .i64 1,qgz,qgz,.int .i64 0,pt x.Nx,pt x.Nx,pt x.Nx,.int .i64 1,.int .i64 (c+1)],[]⟩ [.inRegion Z1 [5],.code .ret]) (f1 tm (dn x.Wg)::[bot]),w.setCell ⟨x.Nx,0,none⟩ (.int .i64 (c+1)),#[⟨.cell ⟨x.Nx,0,none⟩,false,true⟩,⟨.cell ⟨x.Nx,0,none⟩,true,true⟩],(c+1,b),if c<x.N then .ld c else .fn,?_,λc hcs=>qkp _ _ _ _ λe=>hcs (.inl e),by simp,rfl,rfl,?_,a7,.inl ⟨hl,rfl,rfl⟩,?_⟩
 ·refine(ql7 (o:=Z1[4]'(by simp only[Z1,qnn,qgD,sqA,sqB,qL];decide)) (by simp) (by simp only[Z1,qnn,qgD,sqA,sqB,qL];rfl) (by k_ne) (by simp only[Z1,qnn,qgD,sqA,sqB,qL];rfl) Tryz.func179 (by kernel_rfl) (by kernel_rfl) (by kernel_rfl) .i64 (by kernel_rfl) rfl rfl hcell hz).trans ?_;rw[a8];simp only[Z1,qnn,qgD,sqA,sqB,qL];rfl
 ·intro e he;simp at he;rcases he with rfl | rfl
  ·exact⟨_,_,rfl,.inl rfl⟩
  ·exact⟨_,_,rfl,.inl rfl⟩
 ·show x.WA _ _ _ _;split
  ·rename_i hlt
   exact⟨a6,hlt,Z,a,tm,wq,hk',rfl⟩
  ·rename_i hge
   exact⟨a6,Z,a,tm,wq,hk',.inl ⟨c,by omega,by omega,rfl⟩⟩
theorem Ok.sync2{i:Nat}(hi:i<x.N)(hc:x.Cm w)(h:x.Wk S Z a tm wq w)(h7:a.tmps[7]?=some (.int .i64 i))(a6:a.tmps[18]?=some (.bool false)) :x.cfg.Stop (.ld i) S (G ((qhf 142).at ⟨#[pt x.Fd,qgz,.bool false,pt x.Fd,pt x.Fd,pt x.Fd,qgz,qgz],[]⟩ [.inRegion Z0 [3,4,5],.code .ret]) (f2 tm (dn x.Wg)::[bot])) w:=by
 refine⟨rfl,.inr ⟨id,?_⟩⟩;rintro⟨c,b⟩ hd ⟨j,ls,hj,hJ⟩;have a7:=hd;obtain⟨d1,d2⟩:=hd;have hcell:w.cell? ⟨x.Fd,0,none⟩=some (.int .u32 (if b then 1 else 0)):=q9 d2 rfl;refine⟨G ((qhf 142).at ⟨#[pt x.Fd,qgz,.bool false,pt x.Fd,pt x.Fd,pt x.Fd,.int .u32 (if b then 1 else 0),qgz],[]⟩ [.inRegion Z0 [4,5],.code .ret]) (f2 tm (dn x.Wg)::[bot]),w,#[⟨.cell ⟨x.Fd,0,none⟩,false,true⟩],(c,b),if b then .fn else .wk i,?_,λc hcs=>rfl,rfl,rfl,rfl,?_,a7,.inr (.inl ⟨i,rfl,rfl,rfl⟩),?_⟩
 ·refine(qlk (o:=Z0[3]'(by simp only[Z0,qn4,qgD,sqA,sqB,qL];decide)) (by simp) (by simp only[Z0,qn4,qgD,sqA,sqB,qL];rfl) (by k_ne) (by simp only[Z0,qn4,qgD,sqA,sqB,qL];rfl) Tryz.func180 (by kernel_rfl) (by kernel_rfl) (by kernel_rfl) .u32 (by kernel_rfl) rfl hcell).trans ?_;simp only[Z0,qn4,qgD,sqA,sqB,qL];rfl
 ·intro e he;simp at he;subst he;exact⟨_,_,rfl,.inr rfl⟩
 ·show x.WA _ _ _ _;cases b with
  | true=>exact⟨hc,Z,a,tm,wq,h,.inr ⟨a6,rfl⟩⟩
  | false=>exact⟨hc,hi,Z,a,tm,wq,h,h7,a6,rfl⟩
theorem Ok.sync3{i:Nat}(hi:i<x.N)(hb:x.bad i=true)(hc:x.Cm w)(h:x.Wk S Z a tm wq w) :x.cfg.Stop (.wk i) S (G ((qhf 143).at ⟨#[pt x.Fd,.bool true,qgz,qgz,pt x.Fd,pt x.Fd,pt x.Fd,.bool true,.int .u32 1,qgz],[]⟩ [.inRegion JG [5]]) (f10 tm (dn x.Wg)::[bot])) w:=by
 refine⟨rfl,.inr ⟨id,?_⟩⟩;rintro⟨c,b⟩ hd ⟨j,ls,hj,hJ⟩;obtain⟨d1,d2⟩:=hd;have hcell:w.cell? ⟨x.Fd,0,none⟩=some (.int .u32 (if b then 1 else 0)):=q9 d2 rfl;have hz:=Q9 (o:=0) d2;have a6:x.DataAt (c,true) (w.setCell ⟨x.Fd,0,none⟩ (.int .u32 1)):=by
  refine⟨?_,?_⟩
  ·rw[qkp _ _ _ _ o.ne1];exact d1
  ·rw[qoh _ _ _ _ _ _ d2];simp
 have a7:=o.after hc (.inr rfl) (.int .u32 1) a6;have hk':=o.wkafter hc h (.inr rfl) (.int .u32 1) a7.liv;refine⟨G ((qhf 143).at ⟨#[pt x.Fd,.bool true,qgz,qgz,pt x.Fd,pt x.Fd,pt x.Fd,.bool true,.int .u32 1,.tuple #[]],[]⟩ [.inRegion JG []]) (f10 tm (dn x.Wg)::[bot]),w.setCell ⟨x.Fd,0,none⟩ (.int .u32 1),#[⟨.cell ⟨x.Fd,0,none⟩,true,true⟩],(c,true),.st,?_,λc hcs=>qkp _ _ _ _ λe=>hcs (.inr e),by simp,rfl,rfl,?_,a6,.inr (.inr ⟨i,rfl,hb,hi,rfl,rfl⟩),?_⟩
 ·refine(stepG_store_atomic (o:=JG[5]'(by simp only[JG,qo3,qgD,sqA,sqB,qL];decide)) (by simp) (by simp only[JG,qo3,qgD,sqA,sqB,qL];rfl) (by k_ne) (by simp only[JG,qo3,qgD,sqA,sqB,qL];rfl) Tryz.func181 (by kernel_rfl) (by kernel_rfl) (by kernel_rfl) (by kernel_rfl) rfl rfl hcell hz).trans ?_;simp only[JG,qo3,qgD,sqA,sqB,qL];rfl
 ·intro e he;simp at he;subst he;exact⟨_,_,rfl,.inr rfl⟩
 ·exact(⟨a7,.inr ⟨Z,a,tm,wq,hk',rfl⟩⟩:x.WA .st S _ _)
end
end Ph4
end Go.Proofs.YtidgnkmjgioapaaGreat
end
section
namespace Go.Proofs.YtidgnkmjgioapaaGreat
open Go Go.RowKit Go.Conc Go.ConcN Go.ConcN.Gen Go.Conc.Lib Go.ConcR.Gen Go.Co Go.Sim
theorem qbH[JunkSet]{Z:Ren}{t:Array qgx}(h:∀v∈t,VR Z v v):AsR Z t t:=⟨rfl,λi u v hu hv=>by
 rw[hu] at hv;cases hv;exact h u (qiC hu)⟩
theorem qfo:wX=.seq wR3 (.seq wR4 (.seq wR9 q2e)):=by kernel_rfl
theorem ck3:yX Ya ls wR3=true:=by kernel_rfl
theorem ck4:yX Ya ls wR4=true:=by kernel_rfl
theorem ck9:yX Ya ls wR9=true:=by kernel_rfl
theorem hrr(fr:qgH):qhi fr [bot]=none:=by
 unfold qhi;split
 ·rename_i h
  cases h;simp[bot,qpc]
 ·rename_i h
  cases h;have:qhi bot []=none:=by
   unfold qhi;rfl
  rw[this];rfl
 ·rfl
namespace Ph4
section
variable{x:Ph4}(o:x.Ok){S:Bs}{w:qgt}{Z:Ren}{a:Act}{tm:Array qgx}{wq:qgt}
include o
theorem Ok.born(hc:x.Cm w)(hS:∀b,¬ S b):x.Wk S x.r0 ⟨x.tmp0,[]⟩ x.tmp0 x.w0 w:=by
 letI:JunkSet:=x.js
 refine⟨⟨by simp[r0,Go.Co.lr],?_,λi hi=>?_,?_,rfl,⟨λi j h _ hj=>?_,λi j h hb=>?_⟩,λi j h hj=>?_,λj _=>hS j⟩,Le.refl _,qh6 _ _,by simp[tmp0,tm0],λ_ _=>rfl⟩
 ·exact qfF (λi=>Iff.rfl) (by kernel_rfl) o.dj (λb hb=>o.ndlt hb) o.jlt o.nok (λb hb=>hc.fz b (o.fz hb)) hc.size hc.os λb hb=>hc.liv.cells hb
 ·have h0:Tryz.prog.globals.size=0:=by kernel_rfl
  have:i=0:=by omega
  subst this;exact br0 (.inl o.n0) (o.ndlt o.n0)
 ·refine qbH λv hv=>?_;have hp:∀b,b∈x.nds\/b∈x.jks->VR x.r0 (pt b) (pt b):=λb hb=>.ptr 0 none (br0 hb (hb.elim (λh=>o.ndlt h) λh=>o.jlt _ h));simp only[tmp0,tm0,qk8,Array.mem_replicate,qka,qif,qiD,or_false] at hv;rcases hv with(rfl | rfl | rfl | rfl | rfl | rfl | rfl) | ⟨_,rfl⟩
  ·exact hp _ (.inr (by simp[jks]))
  ·exact hp _ (.inr (by simp[jks]))
  ·exact hp _ (.inl o.nA)
  ·exact hp _ (.inr (by simp[jks]))
  ·exact hp _ (.inl o.nY)
  ·exact hp _ (.inl o.nV)
  ·exact hp _ (.inl o.nB)
  ·exact ko _
 ·obtain⟨h1,rfl,h2⟩:=Jz.1 h;rcases h2 with h2 | h2
  ·exact o.fz h2
  ·exact absurd h2 hj
 ·obtain⟨h1,rfl,h2⟩:=Jz.1 h;omega
 ·obtain⟨h1,rfl,h2⟩:=Jz.1 h;exact hj
theorem Ok.piece{Stop:Bs->qgy->qgt->Prop}(hSo:∀S g w off,Stop S g w->Stop S { g with offers:=off } w){c:qj9}(hco:yX Ya ls c=true){k:List qkz}(hc:x.Cm w)(h:x.Wk S Z a tm wq w){R:Act->qgt->Prop}(hwp:∀T,c.wp Ya (yh R) a (wq.tp T))(hR:∀a' u,R a' u->a'.defers=[]/\a'.tmps.size=60/\(∀k,k<7->a'.tmps[k]?=x.tmp0[k]?)/\x.w0.grownBy (u.tp x.w0.tape) none)(hend:∀S' ρ' a' tm' wq' w',R a' wq'->x.Cm w'->x.Wk S' ρ' a' tm' wq' w'->qm qh3 x.Fz x.cfg.K Stop S' (G ((qip 139).at ⟨tm',dn x.Wg⟩ k) [bot]) w') :qm qh3 x.Fz x.cfg.K Stop S (G ((qip 139).at ⟨tm,dn x.Wg⟩ (.code c::k)) [bot]) w:=by
 letI:JunkSet:=x.js
 refine qm.piece (J:=x.js) (qe2 x.jk) (X:=⟨JS Ya Ya ls x.jk⟩) (up x.jk) (qe1 x.jk) hrf hrr q9s x.jk (λb=>b<x.W1.heap.size) x.Cm (λS w w₁ r hw=>hw.rely r) (λS w w' es hd hk hw=>?_) (λw b hw hb=>hw.liv.cells hb) (λw b hw hb=>qh2 hb hw.size) hSo (b:=qip 139) ?_ (by kernel_rfl) rfl (q4j (λ_ h=>h) (λ_ h=>h) (λ_ _ h=>h) hco) h.rel hc hwp (λa' u hr=>(hR a' u hr).1) ?_
 ·refine⟨⟨?_,?_⟩,λb hb=>(hk b hb.1).trans (hw.fz b hb),qgE hw.size hd.size,hd.os.trans hw.os⟩
  ·obtain⟨st,sm,hg⟩:=hw.liv.1;exact⟨st,sm,(hk _ (o.jlt _ (by simp[jks]))).trans hg⟩
  ·obtain⟨W,h1,h2⟩:=hw.liv.2;exact⟨W,(hk _ (o.jlt _ (by simp[jks]))).trans h1,(hk _ (o.jlt _ (by simp[jks]))).trans h2⟩
 ·refine⟨_,(zh 139 (by decide)).trans qoG,qoG⟩
 ·intro ρ' a' tm' wq' w' S' hr hle hrel hcm;obtain⟨h1,h2,h3,h4⟩:=hR _ _ hr;exact hend S' ρ' a' tm' wq' w' hr hcm ⟨hrel,h.le.trans hle,h4,h2,h3⟩
end
end Ph4
end Go.Proofs.YtidgnkmjgioapaaGreat
end
section
namespace Go.Proofs.YtidgnkmjgioapaaGreat
open Go Go.RowKit Go.Conc Go.ConcN Go.ConcN.Gen Go.Conc.Lib Go.ConcR.Gen Go.Co Go.Sim
theorem qc0(z:Array qgx)(h:z.size=60):z=#[z[0]?.getD qgz,z[1]?.getD qgz,z[2]?.getD qgz,z[3]?.getD qgz,z[4]?.getD qgz,z[5]?.getD qgz,z[6]?.getD qgz,z[7]?.getD qgz,z[8]?.getD qgz,z[9]?.getD qgz,z[10]?.getD qgz,z[11]?.getD qgz,z[12]?.getD qgz,z[13]?.getD qgz,z[14]?.getD qgz,z[15]?.getD qgz,z[16]?.getD qgz,z[17]?.getD qgz,z[18]?.getD qgz,z[19]?.getD qgz,z[20]?.getD qgz,z[21]?.getD qgz,z[22]?.getD qgz,z[23]?.getD qgz,z[24]?.getD qgz,z[25]?.getD qgz,z[26]?.getD qgz,z[27]?.getD qgz,z[28]?.getD qgz,z[29]?.getD qgz,z[30]?.getD qgz,z[31]?.getD qgz,z[32]?.getD qgz,z[33]?.getD qgz,z[34]?.getD qgz,z[35]?.getD qgz,z[36]?.getD qgz,z[37]?.getD qgz,z[38]?.getD qgz,z[39]?.getD qgz,z[40]?.getD qgz,z[41]?.getD qgz,z[42]?.getD qgz,z[43]?.getD qgz,z[44]?.getD qgz,z[45]?.getD qgz,z[46]?.getD qgz,z[47]?.getD qgz,z[48]?.getD qgz,z[49]?.getD qgz,z[50]?.getD qgz,z[51]?.getD qgz,z[52]?.getD qgz,z[53]?.getD qgz,z[54]?.getD qgz,z[55]?.getD qgz,z[56]?.getD qgz,z[57]?.getD qgz,z[58]?.getD qgz,z[59]?.getD qgz]:=by
 obtain⟨y0,y1,y2,y3,y4,y5,y6,y7,y8,y9,y10,y11,y12,y13,y14,y15,y16,y17,y18,y19,y20,y21,y22,y23,y24,y25,y26,y27,y28,y29,y30,y31,y32,y33,y34,y35,y36,y37,y38,y39,y40,y41,y42,y43,y44,y45,y46,y47,y48,y49,y50,y51,y52,y53,y54,y55,y56,y57,y58,y59,rfl⟩:=YI z h;rfl
theorem q3F{w0 wq w':qgt}{T:Nat->qj1->Nat}(h:w0.grownBy (wq.tp w0.tape) none)(hg:(wq.tp T).grownBy w' none):w0.grownBy (w'.tp w0.tape) none :=
 ⟨hg.os.trans h.os,rfl,hg.output.trans h.output,qgE h.size hg.size,λk hk hn=>(hg.block k (qh2 hk h.size) hn).trans (h.block k hk hn)⟩
theorem qb7{w0 wq:qgt}(T:Nat->qj1->Nat)(h:w0.grownBy (wq.tp w0.tape) none):(w0.tp T).grownBy (wq.tp T) none:=⟨h.os,rfl,h.output,h.size,h.block⟩
theorem qg4{w0 w':qgt}{T:Nat->qj1->Nat}(h:(w0.tp T).grownBy w' none):w0.grownBy (w'.tp w0.tape) none:=⟨h.os,rfl,h.output,h.size,h.block⟩
theorem qbx{z z0:Array qgx}(hz:z.size=60)(hc:∀k,k<7->z[k]?=z0[k]?)(k:Nat)(hk:k<7):z0[k]?=some (z[k]?.getD qgz):=by
 rw[<- hc k hk,qhg (by omega)];rfl
namespace Ph4
section
variable{x:Ph4}(o:x.Ok){S:Bs}{w:qgt}{Z:Ren}{a:Act}{tm:Array qgx}{wq:qgt}
structure Base(x:Ph4)(i:Nat)(a:Act)(u:qgt):Prop where
 df:a.defers=[]
 sz:a.tmps.size=60
 cap:∀k,k<7->a.tmps[k]?=x.tmp0[k]?
 gr:x.w0.grownBy (u.tp x.w0.tape) none
 i7:a.tmps[7]?=some (.int .i64 i)
def Rows(x:Ph4)(g h:Nat->Int)(a:Act)(u:qgt):Prop:=∃B1 B2,a.tmps[8]?=some (.pointer (some ⟨B1,0,none⟩))/\a.tmps[9]?=some (.pointer (some ⟨B2,0,none⟩))/\u.heap[B1]?=some (qG g)/\u.heap[B2]?=some (qG h)/\B1≠B2/\x.w0.heap.size<=B1/\x.w0.heap.size<=B2
theorem Wk.df(h:x.Wk S Z a tm wq w):a.defers=[]:=by
 letI:JunkSet:=x.js
 exact h.rel.df
include o
theorem Ok.capv(h:x.Wk S Z a tm wq w)(k b:Nat)(hk:k<7)(e:x.tmp0[k]?=some (pt b)):a.tmps[k]?.getD qgz=.pointer (some ⟨b,0,none⟩):=by
 rw[h.cap k hk,e];rfl
theorem Ok.w0s:x.w0.heap.size=x.W1.heap.size:=q6A
theorem Ok.wp3(h:x.Wk S Z a tm wq w){i:Nat}(h7:a.tmps[7]?=some (.int .i64 i))(T:Nat->qj1->Nat) :wR3.wp Ya (yh λa u=>x.Base i a u/\x.Rows x.gn x.gx a u) a (wq.tp T):=by
 have a6:=h.df;obtain⟨z,d⟩:=a;have a6:d=[]:=a6;subst a6;have h4:z[4]?.getD qgz=.pointer (some ⟨x.Y,0,none⟩):=o.capv h 4 x.Y (by omega) (by simp[tmp0,tm0]);have hc:=qbx h.sz h.cap;have hsz:z.size=60:=h.sz;have a7:z[7]?=some (.int .i64 i):=h7;have hg:=qb7 T h.gr;have hP:qw 0 x.W1.heap.size (wq.tp T) (.slice x.yb x.ps.length x.yc) x.ps:=(show qw 0 x.W1.heap.size (x.w0.tp T) (.slice x.yb x.ps.length x.yc) x.ps from q6B (Q:=Ya) (jks:=x.jks) o.pars o.dj o.nyb).kept hg (by simp);have hlt:=o.ndlt o.nY;have b0:(wq.tp T).cell? ⟨x.Y,0,none⟩=some (.slice x.yb x.ps.length x.yc):=hg.cell (xg o.nY (o.dj _ o.nY) o.hY rfl) (by simp);have a9:(wq.tp T).cell? ⟨x.Y,1,none⟩=some (.int .i64 x.lim):=hg.cell (xg o.nY (o.dj _ o.nY) o.hY rfl) (by simp);have hs:x.W1.heap.size<=(wq.tp T).heap.size:=by rw[<- o.w0s];exact hg.size
 generalize ht:(λk:Nat=>z[k]?.getD qgz)=t;have hz:z=#[t 0,t 1,t 2,t 3,t 4,t 5,t 6,t 7,t 8,t 9,t 10,t 11,t 12,t 13,t 14,t 15,t 16,t 17,t 18,t 19,t 20,t 21,t 22,t 23,t 24,t 25,t 26,t 27,t 28,t 29,t 30,t 31,t 32,t 33,t 34,t 35,t 36,t 37,t 38,t 39,t 40,t 41,t 42,t 43,t 44,t 45,t 46,t 47,t 48,t 49,t 50,t 51,t 52,t 53,t 54,t 55,t 56,t 57,t 58,t 59]:=by subst ht;exact qc0 z hsz
 have h4:t 4=.pointer (some ⟨x.Y,0,none⟩):=by subst ht;exact h4
 have hc:∀k,k<7->x.tmp0[k]?=some (t k):=by subst ht;exact hc
 have a7:t 7=.int .i64 i:=by subst ht;show z[7]?.getD qgz=_;rw[a7];rfl
 rw[hz];refine qey 0 x.W1.heap.size t (wq.tp T) _ x.ps x.lim x.Y x.yb x.yc h4 hP hs o.n5 b0 a9 (by omega) λB1 B2 w' _ _ _ _ a8 b7 b6 hne hb1 b9=>?_;have b8:x.w0.heap.size<=(wq.tp T).heap.size:=by rw[o.w0s];exact hs
 refine⟨⟨rfl,rfl,λk hk=>?_,q3F h.gr a8,by rw[<- a7];rfl⟩,B1,B2,rfl,rfl,b7,b6,hne,by omega,by omega⟩;rw[hc k hk];obtain rfl | rfl | rfl | rfl | rfl | rfl | rfl:k=0\/k=1\/k=2\/k=3\/k=4\/k=5\/k=6:=by omega
 all_goals first | rfl | (rw[h4];rfl)
theorem Ok.wp4(h:x.Wk S Z a tm wq w){i:Nat}(hi:i<x.N)(hb:x.Base i a wq)(hr:x.Rows x.gn x.gx a wq)(T:Nat->qj1->Nat) :wR4.wp Ya (yh λa u=>x.Base i a u/\x.Rows (ovr (x.c i) x.gn x.wl x.wl.length) (ovr (x.c i) x.gx x.wl x.wl.length) a u) a (wq.tp T):=by
 obtain⟨B1,B2,h8,h9,b7,b6,hne,hb1,a7⟩:=hr;have a6:=h.df;obtain⟨z,d⟩:=a;have a6:d=[]:=a6;subst a6;have hY:=o.capv h 4 x.Y (by omega) (by simp[tmp0,tm0]);have hA:=o.capv h 2 x.A (by omega) (by simp[tmp0,tm0]);have hV:=o.capv h 5 x.V (by omega) (by simp[tmp0,tm0]);have hB:=o.capv h 6 x.B (by omega) (by simp[tmp0,tm0]);have hc:=qbx h.sz h.cap;have hsz:z.size=60:=h.sz;have h7:z[7]?=some (.int .i64 i):=hb.i7;have h8:z[8]?=some (.pointer (some ⟨B1,0,none⟩)):=h8;have h9:z[9]?=some (.pointer (some ⟨B2,0,none⟩)):=h9;have hg:=qb7 T h.gr;have hs:x.W1.heap.size<=(x.w0.tp T).heap.size:=qkl o.w0s.symm;generalize ht:(λk:Nat=>z[k]?.getD qgz)=t;have hz:z=#[t 0,t 1,t 2,t 3,t 4,t 5,t 6,t 7,t 8,t 9,t 10,t 11,t 12,t 13,t 14,t 15,t 16,t 17,t 18,t 19,t 20,t 21,t 22,t 23,t 24,t 25,t 26,t 27,t 28,t 29,t 30,t 31,t 32,t 33,t 34,t 35,t 36,t 37,t 38,t 39,t 40,t 41,t 42,t 43,t 44,t 45,t 46,t 47,t 48,t 49,t 50,t 51,t 52,t 53,t 54,t 55,t 56,t 57,t 58,t 59]:=by subst ht;exact qc0 z hsz
 have hY:t 4=.pointer (some ⟨x.Y,0,none⟩):=by subst ht;exact hY
 have hA:t 2=.pointer (some ⟨x.A,0,none⟩):=by subst ht;exact hA
 have hV:t 5=.pointer (some ⟨x.V,0,none⟩):=by subst ht;exact hV
 have hB:t 6=.pointer (some ⟨x.B,0,none⟩):=by subst ht;exact hB
 have hc:∀k,k<7->x.tmp0[k]?=some (t k):=by subst ht;exact hc
 have h7:t 7=.int .i64 i:=by subst ht;show z[7]?.getD qgz=_;rw[h7];rfl
 have h8:t 8=.pointer (some ⟨B1,0,none⟩):=by subst ht;show z[8]?.getD qgz=_;rw[h8];rfl
 have h9:t 9=.pointer (some ⟨B2,0,none⟩):=by subst ht;show z[9]?.getD qgz=_;rw[h9];rfl
 rw[hz];refine qex 0 x.W1.heap.size t (x.w0.tp T) (wq.tp T) _ x.A x.V _ x.vv x.N i x.c x.wl B1 B2 x.gn x.gx hA (xg o.nA (o.dj _ o.nA) o.hA rfl) (qaw (Q:=Ya) (jks:=x.jks) o.cas o.dj o.nab) hV (xg o.nV (o.dj _ o.nV) o.hV rfl) (q6D (Q:=Ya) (jks:=x.jks) o.ints o.dj o.nvv) h7 hi h8 h9 hg b7 b6 hne hb1 a7 hs o.hwl ?_;intro _ _ _ _ _ _ _ _ _ _ _ _ _ _ _ _ _ _ _ _ _ _ _ _ w' a8 b0 a9;refine⟨⟨rfl,rfl,λk hk=>?_,qg4 a8,rfl⟩,B1,B2,rfl,rfl,b0,a9,hne,hb1,a7⟩;rw[hc k hk];obtain rfl | rfl | rfl | rfl | rfl | rfl | rfl:k=0\/k=1\/k=2\/k=3\/k=4\/k=5\/k=6:=by omega
 all_goals first | rfl | (rw[hA];rfl) | (rw[hV];rfl)
theorem Ok.wp9(h:x.Wk S Z a tm wq w){i:Nat}(hi:i<x.N)(hb:x.Base i a wq)(hr:x.Rows (ovr (x.c i) x.gn x.wl x.wl.length) (ovr (x.c i) x.gx x.wl x.wl.length) a wq)(T:Nat->qj1->Nat) :wR9.wp Ya (yh λa u=>x.Base i a u/\a.tmps[58]?=some (.bool (x.bad i))) a (wq.tp T):=by
 obtain⟨B1,B2,h8,h9,a9,a8,hne,hb1,b0⟩:=hr;have a6:=h.df;obtain⟨z,d⟩:=a;have a6:d=[]:=a6;subst a6;have hY:=o.capv h 4 x.Y (by omega) (by simp[tmp0,tm0]);have hA:=o.capv h 2 x.A (by omega) (by simp[tmp0,tm0]);have hV:=o.capv h 5 x.V (by omega) (by simp[tmp0,tm0]);have hB:=o.capv h 6 x.B (by omega) (by simp[tmp0,tm0]);have hc:=qbx h.sz h.cap;have hsz:z.size=60:=h.sz;have h7:z[7]?=some (.int .i64 i):=hb.i7;have h8:z[8]?=some (.pointer (some ⟨B1,0,none⟩)):=h8;have h9:z[9]?=some (.pointer (some ⟨B2,0,none⟩)):=h9;have hg:=qb7 T h.gr;have hs:x.W1.heap.size<=(x.w0.tp T).heap.size:=qkl o.w0s.symm;generalize ht:(λk:Nat=>z[k]?.getD qgz)=t;have hz:z=#[t 0,t 1,t 2,t 3,t 4,t 5,t 6,t 7,t 8,t 9,t 10,t 11,t 12,t 13,t 14,t 15,t 16,t 17,t 18,t 19,t 20,t 21,t 22,t 23,t 24,t 25,t 26,t 27,t 28,t 29,t 30,t 31,t 32,t 33,t 34,t 35,t 36,t 37,t 38,t 39,t 40,t 41,t 42,t 43,t 44,t 45,t 46,t 47,t 48,t 49,t 50,t 51,t 52,t 53,t 54,t 55,t 56,t 57,t 58,t 59]:=by subst ht;exact qc0 z hsz
 have hY:t 4=.pointer (some ⟨x.Y,0,none⟩):=by subst ht;exact hY
 have hA:t 2=.pointer (some ⟨x.A,0,none⟩):=by subst ht;exact hA
 have hV:t 5=.pointer (some ⟨x.V,0,none⟩):=by subst ht;exact hV
 have hB:t 6=.pointer (some ⟨x.B,0,none⟩):=by subst ht;exact hB
 have hc:∀k,k<7->x.tmp0[k]?=some (t k):=by subst ht;exact hc
 have h7:t 7=.int .i64 i:=by subst ht;show z[7]?.getD qgz=_;rw[h7];rfl
 have h8:t 8=.pointer (some ⟨B1,0,none⟩):=by subst ht;show z[8]?.getD qgz=_;rw[h8];rfl
 have h9:t 9=.pointer (some ⟨B2,0,none⟩):=by subst ht;show z[9]?.getD qgz=_;rw[h9];rfl
 rw[hz];have ob:∀(g:Nat->Int),(∀d,0<=g d/\g d<=1000)->∀d,0<=ovr (x.c i) g x.wl x.wl.length d/\ovr (x.c i) g x.wl x.wl.length d<=1000:=λg hg d=>by
  unfold ovr;split
  ·exact o.bc i d
  ·exact hg d
 refine qew 0 x.W1.heap.size t (x.w0.tp T) (wq.tp T) _ x.Y x.B x.yb x.yc x.pv x.ps x.lim x.l B1 B2 _ _ hY (xg o.nY (o.dj _ o.nY) o.hY rfl) (xg o.nY (o.dj _ o.nY) o.hY rfl) (q6B (Q:=Ya) (jks:=x.jks) o.pars o.dj o.nyb) hB (xg o.nB (o.dj _ o.nB) o.hB rfl) (q6D (Q:=Ya) (jks:=x.jks) o.intp o.dj o.npv) h8 h9 hg a9 a8 hs o.n5 o.hl o.ll (ob _ o.bmn) (ob _ o.bmx) ?_;intro _ _ _ _ _ _ _ _ _ _ w' a7;refine⟨⟨rfl,rfl,λk hk=>?_,q3F h.gr a7,by rw[<- h7];rfl⟩,rfl⟩;rw[hc k hk];obtain rfl | rfl | rfl | rfl | rfl | rfl | rfl:k=0\/k=1\/k=2\/k=3\/k=4\/k=5\/k=6:=by omega
 all_goals first | rfl | (rw[hY];rfl) | (rw[hB];rfl)
theorem Ok.walk{Stop:Bs->qgy->qgt->Prop}(hSo:∀S g w off,Stop S g w->Stop S { g with offers:=off } w){i:Nat}(hi:i<x.N)(hc:x.Cm w)(h:x.Wk S Z a tm wq w)(h7:a.tmps[7]?=some (.int .i64 i))(hend:∀S' ρ' a' tm' wq' w',x.Cm w'->x.Wk S' ρ' a' tm' wq' w'->a'.tmps[58]?=some (.bool (x.bad i))->qm qh3 x.Fz x.cfg.K Stop S' (G ((qip 139).at ⟨tm',dn x.Wg⟩ (.code q2e::.inBlock 1::jw)) [bot]) w') :qm qh3 x.Fz x.cfg.K Stop S (G ((qip 139).at ⟨tm,dn x.Wg⟩ (.code wX::.inBlock 1::jw)) [bot]) w:=by
 rw[qfo];refine qm.seq kt ?_;refine o.piece hSo ck3 hc h (λT=>o.wp3 h h7 T) (λa' u hr=>⟨hr.1.df,hr.1.sz,hr.1.cap,hr.1.gr⟩) λS1 ρ1 a1 d6 wq1 w1 a7 c8 a9=>?_;refine qm.seq kt ?_;refine o.piece hSo ck4 c8 a9 (λT=>o.wp4 a9 hi a7.1 a7.2 T) (λa' u hr=>⟨hr.1.df,hr.1.sz,hr.1.cap,hr.1.gr⟩) λS2 ρ2 a2 d5 c9 w2 a6 c3 a8=>?_;refine qm.seq kt ?_;refine o.piece hSo ck9 c3 a8 (λT=>o.wp9 a8 hi a6.1 a6.2 T) (λa' u hr=>⟨hr.1.df,hr.1.sz,hr.1.cap,hr.1.gr⟩) λS3 ρ3 a3 b6 b0 w3 b7 b9 b8=>?_;exact hend S3 ρ3 a3 b6 b0 w3 b9 b8 b7.2
end
end Ph4
end Go.Proofs.YtidgnkmjgioapaaGreat
end
section
namespace Go.Proofs.YtidgnkmjgioapaaGreat
open Go Go.RowKit Go.Conc Go.ConcN Go.ConcN.Gen Go.Conc.Lib Go.ConcR.Gen Go.Co Go.Sim
namespace Ph4
section
variable{x:Ph4}
theorem zP(j:Nat)(ls:Nat->Lam):xw (j+1) ls=xw j ls+(if JH (ls j) then 1 else 0):=rfl
theorem q8u{j i:Nat}{ls:Nat->Lam}{l:Lam}(h1:JH (ls i)=false)(h2:JH l=false):xw j (upd ls i l)=xw j ls:=by
 induction j with
 | zero=>rfl
 | succ j ih=>
  rw[zP,zP];rw[ih];by_cases e:j=i
  ·subst e;simp[upd,h1,h2]
  ·simp[upd,e]
theorem q4k{j i:Nat}{ls:Nat->Lam}{l:Lam}(h1:JH (ls i)=false):xw j ls<=xw j (upd ls i l):=by
 induction j with
 | zero=>exact qgw _
 | succ j ih=>
  rw[zP,zP];by_cases e:j=i
  ·subst e;simp[h1];omega
  ·simp[upd,e];omega
theorem qdl{j i:Nat}{ls:Nat->Lam}(hi:i<j)(h1:JH (ls i)=false):xw j (upd ls i .fn)=xw j ls+1:=by
 induction j with
 | zero=>omega
 | succ j ih=>
  rw[zP,zP];by_cases e:j=i
  ·subst e;have:∀n,n<=j->xw n (upd ls j .fn)=xw n ls:=by
    intro n hn;induction n with
    | zero=>rfl
    | succ n ih2=>
     rw[zP,zP];rw[ih2 (by omega)];simp[upd,show n≠j by omega]
   rw[this j (qgw _),h1,show JH (upd ls j .fn j)=true from by simp[upd,JH]];simp
  ·rw[ih (by omega)];simp[upd,e];omega
theorem qbu{j:Nat}{ls:Nat->Lam}{l:Lam}(h:JH l=false):xw (j+1) (upd ls j l)=xw j ls:=by
 have:∀n,n<=j->xw n (upd ls j l)=xw n ls:=by
  intro n hn;induction n with
  | zero=>rfl
  | succ n ih2=>
   rw[zP,zP];rw[ih2 (by omega)];simp[upd,show n≠j by omega]
 rw[zP,this j (qgw _)];simp[upd,h]
theorem hJ0:∀W j ls,x.J W j ls->x.J W (j+1) (upd ls j .st):=by
 rintro W j ls ⟨h1,h2,h3,h4⟩;refine⟨by rw[qbu rfl];exact h1,h2,λhf i hi a6=>?_,λk hk hl=>?_⟩
 ·rcases h3 hf i hi a6 with h | ⟨k,hk,h⟩
  ·exact .inl h
  ·exact .inr ⟨k,by omega,by rw[show upd ls j .st k=ls k from by simp[upd,show k≠j by omega]];exact h⟩
 ·by_cases e:k=j
  ·subst e;simp[upd] at hl
  ·rw[show upd ls j .st k=ls k from by simp[upd,e]] at hl;exact h4 k (by omega) hl
theorem hJ:∀W j ls i γ' l',x.J W j ls->i<j->x.Tr W (ls i) γ' l'->x.J γ' j (upd ls i l'):=by
 rintro W j ls i γ' l' ⟨h1,h2,h3,h4⟩ hi ht;have hu:∀k,k≠i->upd ls i l' k=ls k:=λk hk=>by simp[upd,hk]
 have hs:upd ls i l' i=l':=by simp[upd]
 rcases ht with⟨hl,rfl,rfl⟩ | ⟨i0,hl,rfl,rfl⟩ | ⟨i0,hl,hb,hiN,rfl,rfl⟩
 ·have a7:JH (ls i)=false:=by rcases hl with h | ⟨i0,h,_⟩<;>rw[h]<;>rfl
  refine⟨?_,h2,λhf i' a8 a9=>?_,λk hk a6=>?_⟩
  ·by_cases hlt:W.1<x.N
   ·simp only[hlt,if_true];omega
   ·simp only[hlt,if_false];rw[qdl hi a7];omega
  ·by_cases e:i'=W.1
   ·subst e;exact .inr ⟨i,hi,.inl (by rw[hs,if_pos a8])⟩
   ·rcases h3 hf i' a8 (by have:i'<W.1+1:=a9;omega) with h | ⟨k,hk,h⟩
    ·exact .inl h
    ·by_cases ek:k=i
     ·subst ek;rcases hl with hl | ⟨i0,hl,hb⟩
      ·rw[hl] at h;rcases h with h | h<;>cases h
      ·rw[hl] at h;rcases h with h | h
       ·cases h
       ·cases h;exact .inl hb
     ·exact .inr ⟨k,hk,by rw[hu k ek];exact h⟩
  ·by_cases ek:k=i
   ·subst ek;rw[hs] at a6;by_cases hlt:W.1<x.N
    ·rw[if_pos hlt] at a6;cases a6
    ·exact .inr (by show x.N<=W.1+1;omega)
   ·rw[hu k ek] at a6;exact(h4 k hk a6).imp id λh=>by show x.N<=W.1+1;omega
 ·have a7:JH (ls i)=false:=by rw[hl];rfl
  refine⟨qgE h1 (by have:=q4k (j:=j) (l:=if γ'.2 then Lam.fn else .wk i0) a7;omega),h2,λhf i' a8 a9=>?_,λk hk a6=>?_⟩
  ·rcases h3 hf i' a8 a9 with h | ⟨k,hk,h⟩
   ·exact .inl h
   ·refine .inr ⟨k,hk,?_⟩;by_cases ek:k=i
    ·subst ek;rw[hl] at h;rcases h with h | h
     ·cases h;rw[hs,hf];exact .inr rfl
     ·cases h
    ·rw[hu k ek];exact h
  ·by_cases ek:k=i
   ·subst ek;rw[hs] at a6;cases hg:γ'.2 with
    | true=>exact .inl rfl
    | false=>rw[hg] at a6;cases a6
   ·rw[hu k ek] at a6;exact h4 k hk a6
 ·have a7:JH (ls i)=false:=by rw[hl];rfl
  exact⟨by rw[q8u a7 rfl];exact h1,λ_=>⟨i0,hiN,hb⟩,λhf=>(by cases hf),λk hk a6=>.inl rfl⟩
theorem hm:∀W l γ' l',x.Tr W l γ' l'->x.m γ'+nu l'<x.m W+nu l:=by
 rintro W l γ' l' ht;unfold m;rcases ht with⟨hl,rfl,rfl⟩ | ⟨i0,rfl,rfl,rfl⟩ | ⟨i0,rfl,hb,hiN,rfl,rfl⟩
 ·have hn:1<=nu l:=by rcases hl with h | ⟨i0,h,_⟩<;>rw[h]<;>simp[nu]
  show 3*(x.N - (W.1+1))+nu (if W.1<x.N then .ld W.1 else .fn)<3*(x.N - W.1)+nu l;by_cases hlt:W.1<x.N
  ·rw[if_pos hlt];show 3*(x.N - (W.1+1))+3<_;omega
  ·rw[if_neg hlt];show 3*(x.N - (W.1+1))+0<_;omega
 ·cases γ'.2<;>simp[nu]
 ·simp[nu]
theorem J.final{W:Nat × Bool}{ls:Nat->Lam}(h:x.J W (min 4 x.N) ls)(hf:∀i,i<min 4 x.N->fin (ls i)):W.2=true↔∃i,i<x.N/\x.bad i=true:=by
 obtain⟨h1,h2,h3,h4⟩:=h;refine⟨h2,λ⟨i,hi,hb⟩=>?_⟩;have hfn:∀k,k<min 4 x.N->ls k=.fn:=λk hk=>by
  have:=hf k hk;cases hl:ls k<;>rw[hl] at this<;>first | rfl | exact this.elim
 rcases h4 0 (by omega) (hfn 0 (by omega)) with h | h
 ·exact h
 ·cases hg:W.2 with
  | true=>rfl
  | false=>
   rcases h3 hg i hi (by omega) with h5 | ⟨k,hk,h5⟩
   ·rw[hb] at h5;cases h5
   ·rw[hfn k hk] at h5;rcases h5 with h5 | h5<;>cases h5
theorem hSo{l:Lam}:∀S g w off,x.cfg.Stop l S g w->x.cfg.Stop l S { g with offers:=off } w:=by
 rintro S g w off ⟨h1,h2⟩;refine⟨h1,?_⟩;rcases h2 with⟨hf,g',e,r⟩ | ⟨hf,hx⟩
 ·exact .inl ⟨hf,g',e,r⟩
 ·exact .inr ⟨hf,λW hd hj=>hx W hd hj⟩
variable(o:x.Ok){S:Bs}{w:qgt}{Z:Ren}{a:Act}{tm:Array qgx}{wq:qgt}
include o in
theorem Ok.toA{l:Lam}(hl:l=.st\/∃i,l=.wk i/\x.bad i=false)(hc:x.Cm w)(hk:x.Wk S Z a tm wq w) :qm qh3 x.Fz x.cfg.K (x.cfg.Stop l) S (G ((qip 139).at ⟨tm,dn x.Wg⟩ (.code wLB::jw)) [bot]) w :=
 qcz kt (o.t1 hk) λ_ h₁=>o.sync1 hl (hc.rely h₁) (hk.rely hc h₁)
theorem toE(hc:x.Cm w)(tm:Array qgx)(todo:List qkz):qm qh3 x.Fz x.cfg.K (x.cfg.Stop .fn) S (G { (qip 139).at ⟨tm,dn x.Wg⟩ todo with mode:=.returning } [bot]) w :=
 qcw kt hc.liv.1 (λ_ _ k=>k.1) (λ_ _ h=>⟨h.1,.inl ⟨trivial,h.2⟩⟩) tm todo
include o in
theorem Ok.hW:∀l S g w,x.WA l S g w->qm qh3 x.Fz x.cfg.K (x.cfg.Stop l) S g w:=by
 letI:JunkSet:=x.js
 rintro l S g w ⟨hc,h⟩;have a9:x.A<w.heap.size:=qh2 (o.ndlt o.nA) hc.size;cases l with
 | st=>
  rcases h with⟨rfl,hS⟩ | ⟨Z,a,tm,wq,hk,rfl⟩
  ·exact q5g kt (o.toA (.inl rfl) hc (o.born hc hS))
  ·exact qcx kt (o.toA (.inl rfl) hc (hk.set 59 (by omega) (ko _)))
 | ld i=>
  obtain⟨hi,Z,a,tm,wq,hk,rfl⟩:=h;refine qcy (av:=qgz) kt hk.tsz (o.t2 hk) (o.t3 hk) (λw₁ h₁=>o.cellA (hc.rely h₁)) (o.fz o.nA) a9 hi (by have:=o.hN;omega) (λw₁ h₁=>?_);have b0:=hk.rely hc h₁;have a6:=(((((((b0.set 12 (by omega) (.int .i64 (i+1))).set 13 (by omega) (.int .i64 i)).set 7 (by omega) (.int .i64 i)).set 14 (by omega) (.int .i64 i)).set 15 (by omega) (o.vrA.mono hk.le)).set 16 (by omega) (.int .i64 x.N)).set 17 (by omega) (.bool false)).set 18 (by omega) (.bool false);exact o.sync2 hi (hc.rely h₁) a6 (by simp[qhB,hk.sz]) (by simp[qhB,hk.sz])
 | wk i=>
  obtain⟨hi,Z,a,tm,wq,hk,h7,a8,rfl⟩:=h;refine qa9 kt hk.tsz (hk.bool a8) ?_;have a6:=(hk.set 19 (by omega) (.bool false)).set 20 (by omega) (.bool false);refine o.walk hSo hi hc a6 (by simp[qhB,h7]) λS' ρ' a' tm' wq' w' a7 hk' h58=>?_;cases hb:x.bad i with
  | false=>
   rw[hb] at h58;exact qcv kt hk'.tsz (hk'.bool h58) (o.toA (.inr ⟨i,rfl,hb⟩) a7 hk')
  | true=>
   rw[hb] at h58;exact qcu kt (λw n=>⟨id,id⟩) hk'.tsz (o.t3 hk') (hk'.bool h58) λw₁ h₁=>o.sync3 hi hb (a7.rely h₁) (hk'.rely a7 h₁)
 | fn=>
  obtain⟨Z,a,tm,wq,hk,⟨i,h1,h2,rfl⟩ | ⟨a8,rfl⟩⟩:=h
  ·exact qaa kt hk.tsz (o.t2 hk) (λw₁ h₁=>o.cellA (hc.rely h₁)) (o.fz o.nA) a9 h1 h2 (toE hc)
  ·exact qa8 kt hk.tsz (hk.bool a8) (toE hc)
include o in
theorem Ok.cfg(hAr:∀g w,x.AnchW g w->g.status=.running)(hAn:∀g w,x.AnchW g w->∃m,x.cfg.GM x.cfg.AtW1 m g w)(hFin:∀W ls g w,x.Fin g w->x.J W (min 4 x.N) ls->(∀i,i<min 4 x.N->fin (ls i))->x.DataAt W w->x.cfg.Ph w->E qh3 x.Post (flat x.clA) g w):x.cfg.Ok where
 hn:=by show min 4 x.N<2147483648;omega
 hlo:=o.hlo
 dat:=λW w w' h hd=>⟨(h _ (.inl rfl)).trans hd.1,(h _ (.inr rfl)).trans hd.2⟩
 fzc:=λb hb=>⟨hb.2,hb.1⟩
 syc:=λb hb=>by
  have:b∈x.jks:=by rcases hb with rfl | rfl<;>simp[jks]
  exact⟨o.sync b this,o.jlt b this⟩
 cla0:=o.cla0
 wgc:=⟨o.sync _ (by simp[Ph4.cfg,jks]),o.jlt _ (by simp[Ph4.cfg,jks]),λh=>h.elim o.ne2 o.ne3⟩
 hW:=o.hW
 hJ0:=hJ0
 hJ:=hJ
 hm:=hm
 hAr:=hAr
 hAn:=hAn
 hFin:=hFin
end
end Ph4
end Go.Proofs.YtidgnkmjgioapaaGreat
end
namespace Go.Proofs.YtidgnkmjgioapaaGreat
section
open Go Go.RowKit Go.Conc Go.ConcN Go.ConcN.Gen Go.Conc.Lib Go.ConcR.Gen Go.Co Go.Sim
theorem Qb{cl:Nat->Cl}{A o size:Nat}{wr:Bool}(h:cl A=.mine 0)(hs:A<size):EvG cl size 0 ⟨.cell ⟨A,o,none⟩,wr,Mode.plain == Mode.atomic⟩/\jz ⟨.cell ⟨A,o,none⟩,wr,Mode.plain == Mode.atomic⟩:=by
 refine⟨λx hx b hb=>?_,by simp[jz],by simp,by simp⟩;have hx':x=⟨.cell ⟨A,o,none⟩,wr,.plain⟩:=by
  have e:(Mode.plain == Mode.atomic)=false:=by decide
  rw[e] at hx;cases wr<;>(simp[qiq,qjb] at hx;exact hx.symm)
 subst hx';simp only[Go.Co.blk,qht] at hb;subst hb;exact⟨hs,.inl ⟨h,rfl⟩⟩
theorem Qy{w:qgt}{b o d:Nat}{cs:Array qgx}{e:qh5}{f:Nat × Nat}{v:qgx}(h:w.heap[b]?=some (.cells cs e f))(hv:cs[o]?=some v):(w.at d).cell? ⟨b,o,none⟩=some v:=q9 (w:=w.at d) h hv
structure Nw(w w1:qgt)(B:Nat)(c:Array qgx)(e:qh5):Prop where
 eq:w1=w.alloc (.cells c e)
 at_:B=w.heap.size
section
variable{w w1:qgt}{B:Nat}{c:Array qgx}{e:qh5}
theorem nw(w:qgt)(c:Array qgx)(e:qh5):∃B w1,Nw w w1 B c e:=⟨_,_,⟨rfl,rfl⟩⟩
theorem Nw.size(h:Nw w w1 B c e):w1.heap.size=w.heap.size+1:=by rw[h.eq];simp
theorem Nw.le(h:Nw w w1 B c e):w.heap.size<=w1.heap.size:=by rw[h.size];omega
theorem Nw.lt(h:Nw w w1 B c e):B<w1.heap.size:=by rw[h.size,h.at_];omega
theorem Nw.new(h:Nw w w1 B c e):w1.heap[B]?=some (.cells c e (0,0)):=by
 rw[h.eq,h.at_];unfold World.alloc;exact Array.getElem?_push_size
theorem Nw.old(h:Nw w w1 B c e){b:Nat}(hb:b<w.heap.size):w1.heap[b]?=w.heap[b]?:=by
 rw[h.eq];simp only[World.alloc,ql0];rw[if_neg (by omega)]
theorem Nw.os(h:Nw w w1 B c e):w1.os=w.os:=by rw[h.eq];rfl
theorem Nw.output(h:Nw w w1 B c e):w1.output=w.output:=by rw[h.eq];rfl
end
theorem min4(N:Nat):(if(N:Int)<4 then(N:Int) else 4)=((min 4 N:Nat):Int):=by split<;>omega
theorem qf5(N:Nat)(w:qgt)(P:qgG):(qo1 #[3,3] 3 #[.int .i64 4,.int .i64 N]).events P w #[]=#[]:=by
 simp[go_sem,qo1,Builtin.min2]
theorem K3{P:qgG}{w:qgt}{es:Array qim}{ad:qi2}{b:Option qi2}{l c:Nat}:(Go.store ad (.slice b l c)).events P w es=storedEv P w es ad (.slice b l c) .plain:=events_store P w es ad _ .plain rfl
structure At5(Q:qgG)[JunkSet](M:Nat)(w:qgt)(cl:Nat->Cl)(Z:Ren)(yb pb vb ab:Option qi2)(n yc pn pc vn vc N ac:Nat)(lim:Int)(Y B V A Nx Fd Wg:Nat)(O:Ren)(wq:qgt)(w5:qgt)(cl5:Nat->Cl):Prop where
 wr:WR Q M O wq w5
 ln:M<=O.length
 le:Le Z O
 fr:∀i j,BR O i j->BR Z i j\/w.heap.size<=j
 own:kK cl5 O
 kp:yS M 0 w O w5
 c0:∀b,w5.heap.size<=b->cl5 b=.mine 0
 cold:∀b,b<w.heap.size->cl5 b=cl b
 hY:w5.heap[Y]?=some (.cells #[.slice yb n yc,.int .i64 lim] 91 (0,0))
 hB:w5.heap[B]?=some (.cells #[.slice pb pn pc] 29 (0,0))
 hV:w5.heap[V]?=some (.cells #[.slice vb vn vc] 29 (0,0))
 hA:w5.heap[A]?=some (.cells #[.slice ab N ac] 152 (0,0))
 hNx:w5.heap[Nx]?=some (.cells #[.int .i64 0] 158 (0,0))
 hFd:w5.heap[Fd]?=some (.cells #[.int .u32 0] 161 (0,0))
 hWg:w5.heap[Wg]?=some (.cells #[.int .u64 0,.int .u32 0] 166 (0,0))
 cY:cl5 Y=.mine 0
 cB:cl5 B=.mine 0
 cV:cl5 V=.mine 0
 cA:cl5 A=.mine 0
 cNx:cl5 Nx=.sync
 cFd:cl5 Fd=.sync
 cWg:cl5 Wg=.sync
 l1:w.heap.size<=Nx
 l2:Nx<Fd
 l3:Fd<Wg
noncomputable def x85:qj9:=sqB (sqB (sqB (sqB (sqB (Tryz.f85.body.getD .skip)))))
noncomputable def Q0:qj9:=sqB (sqA x85)
noncomputable def xG:qj9:=sqB x85
def qei(yb pb vb ab:Option qi2)(n yc pn pc vn vc N ac:Nat)(lim:Int)(Y B V A Nx Fd Wg:Nat)(j:Int)(a9 a8 a7 a6:qgx):Array qgx :=
 #[.agg #[.slice yb n yc,.int .i64 lim],.slice pb pn pc,.slice vb vn vc,.pointer (some ⟨Y,0,none⟩),.pointer (some ⟨B,0,none⟩),.pointer (some ⟨V,0,none⟩),.bool false,.pointer (some ⟨A,0,none⟩),.pointer (some ⟨Nx,0,none⟩),.pointer (some ⟨Fd,0,none⟩),.pointer (some ⟨Wg,0,none⟩),.agg #[.slice yb n yc,.int .i64 lim],.slice vb vn vc,.slice ab N ac,.slice ab N ac,.int .i64 N,.int .i64 (min 4 N:Nat),.int .i64 j,a9,a8,a7,a6,qgz,qgz]
theorem qfn[JunkSet]{M:Nat}(D:Two Ya qh3)(hok:JunkSet.okf 137){Rc:qgx->qgt->Prop}{yq vq:qgx}{wq:qgt}{Z:Ren}{Post:qgx->qgt->Prop}{cl:Nat->Cl}{cs:List qgH}{w:qgt}{yb pb vb:Option qi2}{n yc pn pc vn vc:Nat}{lim:Int}(hc0:∀b,w.heap.size<=b->cl b=.mine 0)(g9:M<=Z.length)(hw:WR Ya M Z wq w)(hG:Gl qh3 Z)(hown:kK cl Z)(hy:VR Z yq (.agg #[.slice yb n yc,.int .i64 lim]))(hv:VR Z vq (.slice vb vn vc))(h8:∀i,¬ JunkSet.jk i)(h9:∀T,qhx Ya 137 #[yq,vq] (wq.tp T) λe u=>∃v,e=.returned v/\Rc v u)(m3:∀v u,Rc v u->∃b N c,v=.slice b N c)(hend:∀O wq1 v Y B V A Nx Fd Wg ab N ac w5 cl5,Rc v wq1->VR O v (.slice ab N ac)->At5 Ya M w cl Z yb pb vb ab n yc pn pc vn vc N ac lim Y B V A Nx Fd Wg O wq1 w5 cl5 ->EE qh3 Post cl5 (G ((qhf 85).at ⟨qei yb pb vb ab n yc pn pc vn vc N ac lim Y B V A Nx Fd Wg 0 qgz undef undef undef,[]⟩ [.code Q0,.code xG]) cs) w5) :EE qh3 Post cl (G ((qhf 85).at ⟨#[.agg #[.slice yb n yc,.int .i64 lim],.slice pb pn pc,.slice vb vn vc]++qhC 21 qgz,[]⟩ [.code (Tryz.f85.body.getD .skip)]) cs) w:=by
 simp only[Q0,xG,x85,qei] at hend;simp only[qkw,qgD,sqA,sqB,inn] at hend ⊢;refine EE.seq ?_;refine EE.region ?_;simp only[qhk,qh1,qh7,qhj,qhd,qhl,qi0];obtain⟨Y,w1,n1⟩:=nw w #[.slice yb n yc,.int .i64 lim] 91;refine EE.op (.pointer (some ⟨Y,0,none⟩)) w1 cl rfl rfl (by k_ne) (λd=>by rw[n1.eq,n1.at_];go_simp;exact⟨rfl,rfl⟩) (λd=>by simp[go_sem]) n1.le (λ_ _=>rfl) (λb hb=>hc0 b (by have:=n1.size;omega)) ?_;walk_nrm;obtain⟨B,w2,n2⟩:=nw w1 #[.slice pb pn pc] 29;refine EE.op (.pointer (some ⟨B,0,none⟩)) w2 cl rfl rfl (by k_ne) (λd=>by rw[n2.eq,n2.at_];go_simp;exact⟨rfl,rfl⟩) (λd=>by simp[go_sem]) n2.le (λ_ _=>rfl) (λb hb=>hc0 b (by have:=n1.size;have:=n2.size;omega)) ?_;walk_nrm;obtain⟨V,w3,n3⟩:=nw w2 #[.slice vb vn vc] 29;have d6:∀b,w3.heap.size<=b->cl b=.mine 0:=λb hb=>hc0 b (by have:=n1.size;have:=n2.size;have:=n3.size;omega);refine EE.op (.pointer (some ⟨V,0,none⟩)) w3 cl rfl rfl (by k_ne) (λd=>by rw[n3.eq,n3.at_];go_simp;exact⟨rfl,rfl⟩) (λd=>by simp[go_sem]) n3.le (λ_ _=>rfl) d6 ?_;walk_nrm;refine EE.value (.bool false) rfl rfl (by k_ne) (λ_=>by go_simp) (λ_=>by simp[go_sem]) ?_;walk_nrm;refine EE.region_end ?_;refine EE.seq ?_;refine EE.region ?_;simp only[qhk,qh1,qh7,qhj,qhd,qhl,qi0];have hY:w3.heap[Y]?=some (.cells #[.slice yb n yc,.int .i64 lim] 91 (0,0)):=by
  rw[n3.old (qh2 n1.lt n2.le),n2.old n1.lt];exact n1.new
 have hB:w3.heap[B]?=some (.cells #[.slice pb pn pc] 29 (0,0)):=by
  rw[n3.old n2.lt];exact n2.new
 have hV:=n3.new;have cY:cl Y=.mine 0:=hc0 _ (by rw[n1.at_];omega);have cB:cl B=.mine 0:=hc0 _ (by rw[n2.at_];exact n1.le);have cV:cl V=.mine 0:=hc0 _ (by rw[n3.at_];exact qgE n1.le n2.le);have sY:Y<w3.heap.size:=qh2 n1.lt (qgE n2.le n3.le);have sB:B<w3.heap.size:=qh2 n2.lt n3.le;have sV:V<w3.heap.size:=n3.lt;have m7:∀d,(w3.at d).cell? ⟨Y,0,none⟩=some (.slice yb n yc):=λd=>Qy hY rfl;have m6:∀d,(w3.at d).cell? ⟨Y,1,none⟩=some (.int .i64 lim):=λd=>Qy hY rfl;have m9:∀d,(w3.at d).cell? ⟨V,0,none⟩=some (.slice vb vn vc):=λd=>Qy hV rfl;refine EE.op (.agg #[.slice yb n yc,.int .i64 lim]) w3 cl rfl rfl (by k_ne) (λd=>by go_simp) (λd e he=>by
  simp[go_sem,m7,m6] at he;rcases he with rfl | rfl
  ·exact Qb cY sY
  ·exact Qb cY sY) (qgw _) (λ_ _=>rfl) d6 ?_
 walk_nrm;refine EE.op (.slice vb vn vc) w3 cl rfl rfl (by k_ne) (λd=>by go_simp) (λd e he=>by
  simp[go_sem,m9] at he;rw[he];exact Qb cV sV) (qgw _) (λ_ _=>rfl) d6 ?_
 walk_nrm;refine EE.enter rfl rfl (by k_ne) rfl Tryz.func137 (by kernel_rfl) rfl ?_;walk_nrm;have l9:WR Ya M Z wq w3:=hw.rely (qgE n1.le (qgE n2.le n3.le)) (by rw[n3.os,n2.os,n1.os]) (λi j hij _=>by
  have hj:=hw.lt i j hij;rw[n3.old (qh2 hj (qgE n1.le n2.le)),n2.old (qh2 hj n1.le),n1.old hj]) (λi j _ h=>absurd h (h8 i))
 have nY:∀i,¬ BR Z i Y:=λi h=>by have:=hw.lt _ _ h;rw[n1.at_] at this;omega
 have nB:∀i,¬ BR Z i B:=λi h=>by have:=hw.lt _ _ h;have:=n1.le;rw[n2.at_] at *;omega
 have nV:∀i,¬ BR Z i V:=λi h=>by have:=hw.lt _ _ h;have:=n1.le;have:=n2.le;rw[n3.at_] at *;omega
 refine EE.call D (R:=Rc) hok (zh 137 (by decide)) (aq:=#[yq,vq]) (Z:=Z) (wq:=wq) ?_ g9 l9 hG h9 rfl rfl hown d6 ?_
 ·refine⟨rfl,λi x y hx hy'=>?_⟩;have hi:i<2:=by
   have:=(qgu.1 hx).1;simpa using this
  obtain rfl | rfl:i=0\/i=1:=by omega
  ·cases hx;cases hy';exact hy
  ·cases hx;cases hy';exact hv
 intro O wq1 v v' w4 k5 g8 d8 hle d5 d9 k0 b0;obtain⟨l5,N,ac,rfl⟩:=m3 _ _ k5;obtain⟨ab,rfl⟩:∃ab,v'=.slice ab N ac:=by cases g8<;>exact⟨_,rfl⟩
 have fY:∀i,¬ BR O i Y:=λi h=>(d5 i Y h).elim (nY i) (by omega);have fB:∀i,¬ BR O i B:=λi h=>(d5 i B h).elim (nB i) (by omega);have fV:∀i,¬ BR O i V:=λi h=>(d5 i V h).elim (nV i) (by omega);have m5:=(b0.old Y sY λi h=>absurd h (fY i)).trans hY;have n4:=(b0.old B sB λi h=>absurd h (fB i)).trans hB;have m8:=(b0.old V sV λi h=>absurd h (fV i)).trans hV;rw[qjf];walk_nrm;obtain⟨A,w5,n5⟩:=nw w4 #[.slice none 0 0] 152;have g5:∀b,w5.heap.size<=b->cl b=.mine 0:=λb hb=>k0 b (qgE n5.le hb);refine EE.op (.pointer (some ⟨A,0,none⟩)) w5 cl rfl rfl (by k_ne) (λd=>by rw[n5.eq,n5.at_];go_simp;exact⟨rfl,rfl⟩) (λd=>by simp[go_sem]) n5.le (λ_ _=>rfl) g5 ?_;walk_nrm;have cA:cl A=.mine 0:=k0 _ (by rw[n5.at_];omega);have d7:=n5.new;have k9:∀d,(w5.at d).cell? ⟨A,0,none⟩=some (.slice none 0 0):=λd=>Qy d7 rfl;have k6:∀d,(w5.at d).frozen? ⟨A,0,none⟩=false:=λd=>Q9 (w:=w5.at d) d7;obtain⟨w6,c3⟩:∃w6,w6=w5.setCell ⟨A,0,none⟩ (.slice ab N ac):=⟨_,rfl⟩;have s6:w6.heap.size=w5.heap.size:=by rw[c3];simp
 refine EE.store w6 rfl rfl (by k_ne) (λd=>by rw[c3];clear c3;go_simp;rfl) (λd e he=>by
  simp[go_sem] at he;rw[K3] at he;simp[storedEv,k9,k6] at he;rw[he];exact Qb cA (by rw[s6];exact n5.lt)) s6 g5 ?_
 walk_nrm;have n6:w6.heap[A]?=some (.cells #[.slice ab N ac] 152 (0,0)):=by
  rw[c3,qoh _ _ _ _ _ _ d7];simp
 have g7:∀b,b<w4.heap.size->w6.heap[b]?=w4.heap[b]?:=λb hb=>by
  rw[c3,qkp _ _ _ _ (by rw[n5.at_];show b≠w4.heap.size;omega)];exact n5.old hb
 have g6:w6.os=w4.os:=by rw[c3];exact n5.os
 have l7:w6.output=w4.output:=by rw[c3];exact n5.output
 have m4:∀b,w6.heap.size<=b->cl b=.mine 0:=λb hb=>g5 b (by omega);have s4:w4.heap.size<=w6.heap.size:=by rw[s6];exact n5.le
 have l6:A<w6.heap.size:=by rw[s6];exact n5.lt
 clear c3 k9 k6 d7 s6;refine EE.region_end ?_;refine EE.seq ?_;refine EE.region ?_;simp only[qhk,qh1,qh7,qhj,qhd,qhl,qi0];obtain⟨Nx,w7,n7⟩:=nw w6 #[.int .i64 0] 158;obtain⟨c7,e6⟩:∃c7:Nat->Cl,c7=λb=>if b=Nx then .sync else cl b:=⟨_,rfl⟩;have a7:∀b,b<w6.heap.size->c7 b=cl b:=λb hb=>by rw[e6];simp only;rw[if_neg (by rw[n7.at_];omega)]
 have b7:∀b,w7.heap.size<=b->c7 b=.mine 0:=λb hb=>by rw[e6];simp only;rw[if_neg (by have:=n7.lt;omega)];exact m4 b (qgE n7.le hb)
 refine EE.op (.pointer (some ⟨Nx,0,none⟩)) w7 c7 rfl rfl (by k_ne) (λd=>by rw[n7.eq,n7.at_];go_simp;exact⟨rfl,rfl⟩) (λd=>by simp[go_sem]) n7.le a7 b7 ?_;walk_nrm;refine EE.region_end ?_;refine EE.seq ?_;refine EE.region ?_;simp only[qhk,qh1,qh7,qhj,qhd,qhl,qi0];obtain⟨Fd,w8,n8⟩:=nw w7 #[.int .u32 0] 161;obtain⟨c8,e5⟩:∃c8:Nat->Cl,c8=λb=>if b=Fd then .sync else c7 b:=⟨_,rfl⟩;have a8:∀b,b<w7.heap.size->c8 b=c7 b:=λb hb=>by rw[e5];simp only;rw[if_neg (by rw[n8.at_];omega)]
 have b8:∀b,w8.heap.size<=b->c8 b=.mine 0:=λb hb=>by rw[e5];simp only;rw[if_neg (by have:=n8.lt;omega)];exact b7 b (qgE n8.le hb)
 refine EE.op (.pointer (some ⟨Fd,0,none⟩)) w8 c8 rfl rfl (by k_ne) (λd=>by rw[n8.eq,n8.at_];go_simp;exact⟨rfl,rfl⟩) (λd=>by simp[go_sem]) n8.le a8 b8 ?_;walk_nrm;refine EE.region_end ?_;refine EE.seq ?_;refine EE.region ?_;simp only[qhk,qh1,qh7,qhj,qhd,qhl,qi0];obtain⟨Wg,w9,n9⟩:=nw w8 #[.int .u64 0,.int .u32 0] 166;obtain⟨c9,e4⟩:∃c9:Nat->Cl,c9=λb=>if b=Wg then .sync else c8 b:=⟨_,rfl⟩;have a9:∀b,b<w8.heap.size->c9 b=c8 b:=λb hb=>by rw[e4];simp only;rw[if_neg (by rw[n9.at_];omega)]
 have b9:∀b,w9.heap.size<=b->c9 b=.mine 0:=λb hb=>by rw[e4];simp only;rw[if_neg (by have:=n9.lt;omega)];exact b8 b (qgE n9.le hb)
 refine EE.op (.pointer (some ⟨Wg,0,none⟩)) w9 c9 rfl rfl (by k_ne) (λd=>by rw[n9.eq,n9.at_];go_simp;exact⟨rfl,rfl⟩) (λd=>by simp[go_sem]) n9.le a9 b9 ?_;walk_nrm;have e7:=n7.le;have e8:=n8.le;have e9:=n9.le;have b6:∀b,b<w4.heap.size->w9.heap[b]?=w4.heap[b]?:=λb hb=>by
  rw[n9.old (by omega),n8.old (by omega),n7.old (by omega)];exact g7 b hb
 have a6:∀b,b<w6.heap.size->c9 b=cl b:=λb hb=>by rw[a9 b (by omega),a8 b (by omega),a7 b hb]
 have k8:w9.heap[A]?=some (.cells #[.slice ab N ac] 152 (0,0)):=by
  rw[n9.old (by omega),n8.old (by omega),n7.old (by omega)];exact n6
 refine EE.region_end ?_;refine EE.seq ?_;refine EE.seq ?_;refine EE.region ?_;simp only[qhk,qh1,qh7,qhj,qhd,qhl,qi0];have k7:∀d,(w9.at d).cell? ⟨A,0,none⟩=some (.slice ab N ac):=λd=>Qy k8 rfl;have l4:c9 A=.mine 0:=(a6 A l6).trans cA;have l8:A<w9.heap.size:=by omega
 refine EE.op (.slice ab N ac) w9 c9 rfl rfl (by k_ne) (λd=>by go_simp) (λd e he=>by
  simp[go_sem,k7] at he;rw[he];exact Qb l4 l8) (qgw _) (λ_ _=>rfl) b9 ?_
 walk_nrm;refine EE.value (.int .i64 N) rfl rfl (by k_ne) (λ_=>by go_simp) (λ_=>by simp[go_sem]) ?_;walk_nrm;refine EE.value (.int .i64 (min 4 N:Nat)) rfl rfl (by k_ne) (λ_=>by go_simp;rw[min4]) (λ_=>by simp[go_sem];exact qf5 _ _ _) ?_;walk_nrm;refine EE.value (.int .i64 0) rfl rfl (by k_ne) (λ_=>by go_simp) (λ_=>by simp[go_sem]) ?_;walk_nrm;refine EE.region_end ?_;have f4:∀{b:Nat},b<w3.heap.size->b<w4.heap.size:=λh=>qh2 h b0.size;refine hend O wq1 (.slice l5 N ac) Y B V A Nx Fd Wg ab N ac w9 c9 k5 g8 ⟨?_,qgE g9 hle.len,hle,λi j hij=>(d5 i j hij).imp id λh=>qgE (qgE n1.le (qgE n2.le n3.le)) h,?_,⟨?_,?_,?_,?_,λ_ _ _ _=>qhz _,qhz _⟩,b9,?_,?_,?_,?_,k8,?_,?_,n9.new,?_,?_,?_,l4,?_,?_,?_,?_,?_,?_⟩
 ·-- wr
  refine d8.rely (by omega) ?_ (λi j hij _=>b6 j (d8.lt i j hij)) (λi j _ h=>absurd h (h8 i));rw[n9.os,n8.os,n7.os,g6]
 ·-- own
  intro i j hij;have hj:=d8.lt i j hij;rw[a6 j (by omega)];exact d9 i j hij
 ·-- keep
  intro j hj hn;have h1:w.heap.size<=w3.heap.size:=qgE n1.le (qgE n2.le n3.le);have h2:=b0.size;rw[b6 j (by omega),b0.old j (by omega) hn,n3.old (qh2 hj (qgE n1.le n2.le)),n2.old (qh2 hj n1.le),n1.old hj]
 ·rw[n9.os,n8.os,n7.os,g6,b0.os,n3.os,n2.os,n1.os]
 ·rw[n9.output,n8.output,n7.output,l7,b0.output,n3.output,n2.output,n1.output]
 ·have h1:w.heap.size<=w3.heap.size:=qgE n1.le (qgE n2.le n3.le);have h2:=b0.size;omega
 ·intro b hb;have h1:w.heap.size<=w3.heap.size:=qgE n1.le (qgE n2.le n3.le);have h2:=b0.size;exact a6 b (by omega)
 ·exact(b6 Y (f4 sY)).trans m5
 ·exact(b6 B (f4 sB)).trans n4
 ·exact(b6 V (f4 sV)).trans m8
 ·have:=n7.lt;rw[n9.old (by omega),n8.old (by omega)];exact n7.new
 ·have:=n8.lt;rw[n9.old (by omega)];exact n8.new
 ·have:=f4 sY;rw[a6 Y (by omega)];exact cY
 ·have:=f4 sB;rw[a6 B (by omega)];exact cB
 ·have:=f4 sV;rw[a6 V (by omega)];exact cV
 ·have:=n7.lt;rw[a9 Nx (by omega),a8 Nx (by omega),e6];simp
 ·have:=n8.lt;rw[a9 Fd (by omega),e5];simp
 ·rw[e4];simp
 ·have h1:w.heap.size<=w3.heap.size:=qgE n1.le (qgE n2.le n3.le);have h2:=b0.size;rw[n7.at_];omega
 ·have:=n7.lt;rw[n8.at_];omega
 ·have:=n8.lt;rw[n9.at_];omega
end
section
open Go Go.RowKit Go.Conc Go.ConcN Go.ConcN.Gen Go.Conc.Lib Go.ConcR.Gen Go.Co Go.Sim
theorem qeu{U X:Type}{C:Cfg U X}{Stop:qgy->qgt->Prop}{a m:Nat}{g:qgy}{w:qgt}(h:qmc C.P true (LR C.ty C.Wg) qna (λg w=>C.GM Stop m g w) a g w):C.GM Stop (a+m) g w :=
 Cfg.GM.trans (Cfg.GM.of h λ_ _ h=>h)
noncomputable def yA:qj9:=inn (inn Q0)
noncomputable def YM:List qkz:=[.inLoop yA,.inBlock 0,.code xG]
def KG(x:Ph4):qgx:=.func (.func 139) #[] (jt x.Wg x.Nx x.A x.Fd x.Y x.V x.B)
def tmx(x:Ph4)(j:Nat)(a b c d e:qgx):Array qgx :=
 #[.agg #[.slice x.yb x.ps.length x.yc,.int .i64 x.lim],x.pv,x.vv,.pointer (some ⟨x.Y,0,none⟩),.pointer (some ⟨x.B,0,none⟩),.pointer (some ⟨x.V,0,none⟩),.bool false,.pointer (some ⟨x.A,0,none⟩),.pointer (some ⟨x.Nx,0,none⟩),.pointer (some ⟨x.Fd,0,none⟩),.pointer (some ⟨x.Wg,0,none⟩),.agg #[.slice x.yb x.ps.length x.yc,.int .i64 x.lim],x.vv,.slice x.ab x.N x.ac,.slice x.ab x.N x.ac,.int .i64 x.N,.int .i64 (min 4 x.N:Nat),.int .i64 j,a,b,c,d,e,qgz]
def z18(j:Nat):qgx:=if j=0 then qgz else .bool true
def z19(j:Nat):qgx:=if j=0 then qgz else .tuple #[]
def z20(x:Ph4)(j:Nat):qgx:=if j=0 then qgz else KG x
def z21(j:Nat):qgx:=if j=0 then qgz else .int .i64 j
theorem qfl(j:Nat):z18 (j+1)=.bool true:=by simp[z18]
theorem qfk(j:Nat):z19 (j+1)=.tuple #[]:=by simp[z19]
theorem qfj(x:Ph4)(j:Nat):z20 x (j+1)=KG x:=by simp[z20]
theorem qfi(j:Nat):z21 (j+1)=.int .i64 (j+1:Nat):=by simp[z21]
noncomputable def q3C(x:Ph4)(cs:List qgH)(j:Nat):qgy:=G ((qhf 85).at ⟨tmx x j (z18 j) (z19 j) (z20 x j) (z21 j) qgz,[]⟩ (.code yA::YM)) cs
section
variable{x:Ph4}{cs:List qgH}
theorem q01{Stop:qgy->qgt->Prop}{m:Nat}{j:Nat}(hj:j<4)(h:∀w,qjB 166 x.Wg w->x.cfg.GM Stop m (q3C x cs (j+1)) w)(w:qgt)(hF:qjB 166 x.Wg w) :x.cfg.GM Stop (7+m) (G ((qhf 85).at ⟨tmx x j (.bool true) (.tuple #[]) (KG x) (z21 j) qgz,[]⟩ (.inRegion (qL (sqB (inn (sqA (sqB (sqB yA)))))) []::.inBlock 1::.code (sqB (sqB (sqB yA)))::YM)) cs) w:=by
 refine qeu ?_;simp only[q3C,YM,yA,Q0,xG,x85,qkw,qgD,sqA,sqB,inn,qL,tmx] at h ⊢;have a6:IntKind.i64.wrap ((j:Int)+1)=j+1:=qhm _ (by omega);u_c qgA qb hF;u_c stepG_inBlock qb hF;u_reg qb hF;u_op qb hF;u_op qb hF;u_c qgA qb hF;u_c stepG_inLoop qb hF;refine qj5 (λw₁ h₁=>?_);have e:=h w₁ (qb hF h₁);simp only[qfl,qfk,qfj,qfi,Int.natCast_add,Int.cast_ofNat_Int] at e;exact e
noncomputable def qd5(x:Ph4)(cs:List qgH)(j:Nat):qgy:=G ((qhf 85).at ⟨tmx x j (.bool true) (.tuple #[]) (z20 x j) (z21 j) qgz,[]⟩ (.inRegion (qL (sqA (inn (sqA (sqB (sqB yA)))))) []::.code (sqB (inn (sqA (sqB (sqB yA)))))::.inBlock 1::.code (sqB (sqB (sqB yA)))::YM)) cs
theorem q9u{S:qgy->qgt->Prop}{N j:Nat}(hj:j<min 4 x.N)(h:∀w,qjB 166 x.Wg w->x.cfg.GM (x.cfg.AtGoS S) N (qd5 x cs j) w)(w:qgt)(hF:qjB 166 x.Wg w):x.cfg.GM (x.cfg.AtKdS S) 24 (q3C x cs j) w:=by
 refine Cfg.add_spawn (N:=N) ?_;have hlt:decide ((j:Int)<((min 4 x.N:Nat):Int))=true:=decide_eq_true (by omega);simp only[qd5,q3C,YM,yA,Q0,xG,x85,qkw,qgD,sqA,sqB,inn,qL,tmx] at h ⊢;u_c qh4 qb hF;u_reg qb hF;u_op qb hF;u_c qgA qb hF;u_c qh4 qb hF;u_cond true qb hF;u_c qil qb hF;u_c qh4 qb hF;u_c qn3 qb hF;u_c qh4 qb hF;u_reg qb hF;u_in qb hF;refine goes_call rfl rfl (by k_ne) rfl JZ.f_add (nm_add link) rfl ⟨by u_nil,?_⟩
 walk_nrmf addFn
 exact addPos (L:=link) JZ h _ hF
noncomputable def qeH(x:Ph4)(cs:List qgH)(j:Nat):qgy:=G ((qhf 85).at ⟨tmx x j (.bool true) (.tuple #[]) (KG x) (z21 j) qgz,[]⟩ (.inRegion (qL (sqB (inn (sqA (sqB (sqB yA)))))) []::.inBlock 1::.code (sqB (sqB (sqB yA)))::YM)) cs
theorem qcn{S:qgy->qgt->Prop}{j:Nat}(h:∀w,qjB 166 x.Wg w->S (qeH x cs j) w)(w:qgt)(hF:qjB 166 x.Wg w):x.cfg.GM (x.cfg.AtGoS S) (3+0) (qd5 x cs j) w:=by
 refine Cfg.GM.of (C:=x.cfg) (Stop:=x.cfg.AtGoS S) ?_ (λ_ _ h=>h);simp only[qeH,qd5,YM,yA,Q0,xG,x85,qkw,qgD,sqA,sqB,inn,qL,tmx] at h ⊢;u_c qgA qb hF;u_reg qb hF;u_op qb hF;refine qj5 (λw₁ h₁=>?_);replace hF:=qb hF h₁;refine⟨rfl,_,born qh3 (KN x.Wg x.Nx x.A x.Fd x.Y x.V x.B),?_,?_,h _ hF⟩
 ·have hs:=stepG_spawn (P:=qh3) (main:=true) (w:=w₁) (w':=w₁) (b:=qhf 85) (cs:=cs) (i:=1) (rest:=[]) (d:=KN x.Wg x.Nx x.A x.Fd x.Y x.V x.B) (f:=.func 139) (c:=jt x.Wg x.Nx x.A x.Fd x.Y x.V x.B)
   (ops:=(qL (sqB (inn (sqA (sqB (sqB yA))))))) (o:=(qL (sqB (inn (sqA (sqB (sqB yA))))))[1]'(by simp only[yA,Q0,x85,qkw,qgD,sqA,sqB,inn,qL];decide)) (a:=⟨tmx x j (.bool true) (.tuple #[]) (KG x) (z21 j) qgz,[]⟩) (k:=.inBlock 1::.code (sqB (sqB (sqB yA)))::YM) (by simp) (by simp only[yA,Q0,x85,qkw,qgD,sqA,sqB,inn,qL];rfl) (by k_ne) (by
    simp only[yA,Q0,x85,qkw,qgD,sqA,sqB,inn,qL,tmx,KG];go_simp;rfl) rfl
  refine Eq.trans ?_ (hs.trans ?_)
  ·simp only[YM,yA,Q0,xG,x85,qkw,qgD,sqA,sqB,inn,qL,tmx,KG,jt,pt];rfl
  ·have he:listed qh3 (qhf 85).fn ⟨tmx x j (.bool true) (.tuple #[]) (KG x) (z21 j) qgz,[]⟩ ((qL (sqB (inn (sqA (sqB (sqB yA))))))[1]'(by simp only[yA,Q0,x85,qkw,qgD,sqA,sqB,inn,qL];decide)) w₁=#[]:=by
    unfold listed;have:((qk5 (Act.eval ⟨tmx x j (.bool true) (.tuple #[]) (KG x) (z21 j) qgz,[]⟩) ((qL (sqB (inn (sqA (sqB (sqB yA))))))[1]'(by simp only[yA,Q0,x85,qkw,qgD,sqA,sqB,inn,qL];decide))).events qh3 w₁ #[])=#[]:=by
     simp only[yA,Q0,x85,qkw,qgD,sqA,sqB,inn,qL,tmx,KG];simp[go_sem]
    rw[this,seen_none]
   rw[he];simp only[YM,yA,Q0,xG,x85,qkw,qgD,sqA,sqB,inn,qL,tmx];rfl
 ·rintro hp ⟨W,hd⟩;exact⟨⟨⟨hF,W,hd⟩,hp.fz,hp.size,hp.os⟩,.inl ⟨rfl,λ_ h=>h⟩⟩
noncomputable def q5D(x:Ph4):qgH:=(qhf 85).at ⟨tmx x (min 4 x.N) (.bool false) (z19 (min 4 x.N)) (z20 x (min 4 x.N)) (z21 (min 4 x.N)) qgz,[]⟩ [.inRegion (qL (sqA xG)) [0],.code (sqB xG)]
noncomputable def qdd(x:Ph4):qgH:=(qhf 85).at ⟨tmx x (min 4 x.N) (.bool false) (z19 (min 4 x.N)) (z20 x (min 4 x.N)) (z21 (min 4 x.N)) (.tuple #[]),[]⟩ [.inRegion (qL (sqA xG)) [],.code (sqB xG)]
def F0(x:Ph4)(cs:List qgH)(g:qgy)(w:qgt):Prop:=g=G (qdd x) cs/\qjB 166 x.Wg w
theorem q00(hA:x.AnchW=ZN link x.Wg (q5D x) cs)(w:qgt)(hF:qjB 166 x.Wg w):x.cfg.GM x.cfg.AtKd 13 (q3C x cs (min 4 x.N)) w:=by
 refine Cfg.kd_of ?_;have hlt:decide (((min 4 x.N:Nat):Int)<((min 4 x.N:Nat):Int))=false:=decide_eq_false (by omega);have a6:x.cfg.AnchW=ZN link x.Wg (q5D x) cs:=hA;rw[a6];generalize hn:min 4 x.N=n at hlt;simp only[q5D,q3C,YM,yA,Q0,xG,x85,qkw,qgD,sqA,sqB,inn,qL,tmx,hn];u_c qh4 qb hF;u_reg qb hF;u_op qb hF;u_c qgA qb hF;u_c qh4 qb hF;u_cond false qb hF;u_exit qb hF;u_c qh4 qb hF;u_reg qb hF;u_in qb hF;refine goes_call rfl rfl (by k_ne) rfl JZ.f_wait (nm_wait link) rfl ⟨by u_nil,?_⟩
 walk_nrmf waitFn
 exact Go.Co.waitStart (L:=link) JZ _ hF
theorem qes(hA:x.AnchW=ZN link x.Wg (q5D x) cs):∀r j,j+r=min 4 x.N->(∀w,qjB 166 x.Wg w->x.cfg.Spawns r (q3C x cs j) w)/\(0<j->∀w,qjB 166 x.Wg w->x.cfg.Spawns r (qeH x cs (j - 1)) w):=by
 intro r;induction r with
 | zero=>
  intro j hj;have e:j=min 4 x.N:=by omega
  subst e;refine⟨λw hw=>⟨13,q00 hA w hw⟩,λhp w hw=>⟨7+13,?_⟩⟩;have e:min 4 x.N - 1+1=min 4 x.N:=by omega
  exact q01 (j:=min 4 x.N - 1) (by omega) (λw hw=>by rw[e];exact q00 hA w hw) w hw
 | succ r ih=>
  intro j hj;have hin:=(ih (j+1) (by omega)).2 (by omega);rw[Nat.add_sub_cancel] at hin;have hd:∀w,qjB 166 x.Wg w->x.cfg.GM (x.cfg.AtKdS (x.cfg.Spawns r)) 24 (q3C x cs j) w:=q9u (N:=3+0) (by omega) (qcn hin);refine⟨λw hw=>⟨24,hd w hw⟩,λhp w hw=>⟨7+24,?_⟩⟩;obtain⟨k,rfl⟩:∃k,j=k+1:=⟨j - 1,by omega⟩;exact q01 (by omega) hd w hw
theorem qc1(hA:x.AnchW=ZN link x.Wg (q5D x) cs)(g:qgy)(w:qgt)(h:x.AnchW g w):g.status=.running:=by
 rw[hA] at h;obtain⟨T,rfl,_⟩:=h;rfl
theorem qdv(hA:x.AnchW=ZN link x.Wg (q5D x) cs)(a6:x.Fin=λg w=>qmc qh3 true (LR 166 x.Wg) qna (F0 x cs) 40 g w)(g:qgy)(w:qgt)(h:x.AnchW g w):∃m,x.cfg.GM x.cfg.AtW1 m g w:=by
 rw[hA] at h;have h1:=Go.Co.waitRound (L:=link) (Fin:=F0 x cs) JZ (b₀:=qhf 85) (a₀:=⟨tmx x (min 4 x.N) (.bool false) (z19 (min 4 x.N)) (z20 x (min 4 x.N)) (z21 (min 4 x.N)) qgz,[]⟩) (ops₀:=qL (sqA xG)) (i₀:=0) (rest₀:=[]) (k₀:=[.code (sqB xG)]) (cs:=cs) ?_ g w h
 ·refine⟨30,Cfg.GM.of h1 λg w hm=>?_⟩;refine Cfg.w1_of (C:=x.cfg) (F0:=F0 x cs) (λg w hg=>?_) ?_
  ·show x.Fin g w;rw[a6];exact hg
  ·have e:x.cfg.AnchW=x.AnchW:=rfl;rw[e,hA];exact hm
 ·intro w hw;refine⟨?_,hw⟩;simp only[qdd,xG,x85,qkw,qgD,sqA,sqB,inn,qL,tmx];rfl
end
end
end Go.Proofs.YtidgnkmjgioapaaGreat
section
namespace Go.Co
open Go.Conc Go.ConcN Go.Sim
section
variable{P:qgG}{Post:qgx->qgt->Prop}{cl:Nat->Cl}{w:qgt}
theorem EE.of_goes{R:qgt->qgt->Prop}(hR:∀w d,R w (w.at d)){Stop:qgy->qgt->Prop}(hS:∀g d,Stop g (w.at d)->EE P Post cl g w):∀{n:Nat} {g:qgy} {d:Nat},qmc P true R qna Stop n g (w.at d)->EE P Post cl g w:=by
 intro n;induction n with
 | zero=>exact λ{g d} h=>hS g d (h _ (hR _ _))
 | succ n ih=>
  intro g d h;rcases h with h | ⟨h0,h⟩
  ·exact hS g d (h _ (hR _ _))
  ·refine λd'=>E.step h0 λa6=>?_;obtain⟨g',w',es,e,⟨d1,d2⟩,hg⟩:=goes_elim (h (w.at a6) (hR (w.at d) a6));subst d1;subst d2;exact⟨g',w.at a6,#[],e,qgw _,by simp,ih hg a6⟩
theorem EE.enterB{b:qgH}{a:Act}{k:List qkz}{cs:List qgH}{ops:Array qiu}{i:Nat}{rest:List Nat}{o:qiu}{f:qi8}{fn:Func}{c:qj9}{args:Array qhF}{a6:Array qh5}(ho:ops[i]?=some o)(hw:qhD o (qjn ops a.tmps)=true)(hk:b.kind≠.early)(hop:o.op=.call { callee:=.value (.func f),args,argTypes:=a6 })(hf:P.funcs[f]?=some fn)(hname:(fn.name == "runtime.NumGoroutine")=false)(hb:fn.body=some c)(h:EE P Post cl (G ((base f).at { tmps:=args.map a.eval++qhC (fn.ntmps - (args.map a.eval).size) qgz,defers:=[] } [.code c]) (b.at a (.inRegion ops (i::rest)::k)::cs)) w) :EE P Post cl (G (b.at a (.inRegion ops (i::rest)::k)) cs) w :=
 EE.enter ho hw hk hop hf hname (by rw[hb];rfl) (by rw[enter_at _ hf hb];exact h)
theorem qbk{A o size:Nat}(h:cl A=.sync)(hs:A<size):EvG cl size 0 ⟨.cell ⟨A,o,none⟩,false,true⟩/\jz ⟨.cell ⟨A,o,none⟩,false,true⟩:=by
 refine⟨λx hx b hb=>?_,by simp[jz],by simp,by simp⟩;have hx':x=⟨.cell ⟨A,o,none⟩,false,.atomic⟩:=by simp[qiq,qjb] at hx;exact hx.symm
 subst hx';simp only[blk,qht] at hb;subst hb;exact⟨hs,.inr (.inr ⟨h,by simp,by simp⟩)⟩
end
end Go.Co
namespace Go.Proofs.YtidgnkmjgioapaaGreat
open Go Go.RowKit Go.Conc Go.ConcN Go.ConcN.Gen Go.Conc.Lib Go.ConcR.Gen Go.Co Go.Sim
section
variable{x:Ph4}{cs:List qgH}
theorem after{Post:qgx->qgt->Prop}{cl:Nat->Cl}{w:qgt}{v:Bool}(hFd:w.heap[x.Fd]?=some (.cells #[.int .u32 (if v then 1 else 0)] 161 (0,0)))(hcl:cl x.Fd=.sync)(hc0:∀b,w.heap.size<=b->cl b=.mine 0)(hend:∀t todo,t.getD 6 qgz=.bool v->EE qh3 Post cl (G { (qhf 85).at ⟨t,[]⟩ todo with mode:=.returning } cs) w):EE qh3 Post cl (G (qdd x) cs) w:=by
 have hsz:x.Fd<w.heap.size:=(qgu.1 hFd).1;have hcell:∀d,(w.at d).cell? ⟨x.Fd,0,none⟩=some (.int .u32 (if v then 1 else 0)):=λd=>Qy hFd rfl;generalize hn:min 4 x.N=n;simp only[qdd,xG,x85,qkw,qgD,sqA,sqB,inn,qL,tmx,hn];refine EE.region_end ?_;refine EE.seq ?_;refine EE.region ?_;simp only[qhk,qh1,qh7,qhj,qhd,qhl,qi0];refine EE.enterB rfl rfl (by k_ne) rfl qne (by kernel_rfl) rfl ?_
 walk_nrmf qn4
 refine EE.seq ?_;refine EE.region ?_;simp only[qhk,qh1,qh7,qhj,qhd,qhl,qi0];refine EE.value (.bool false) rfl rfl (by k_ne) (λ_=>by go_simp) (λ_=>by simp[go_sem]) ?_;walk_nrm;refine EE.region_end ?_;refine EE.seq ?_;refine EE.region ?_;simp only[qhk,qh1,qh7,qhj,qhd,qhl,qi0];refine EE.value (.pointer (some ⟨x.Fd,0,none⟩)) rfl rfl (by k_ne) (λ_=>by go_simp) (λ_=>by simp[go_sem]) ?_;walk_nrm;refine EE.value (.pointer (some ⟨x.Fd,0,none⟩)) rfl rfl (by k_ne) (λ_=>by go_simp) (λ_=>by simp[go_sem]) ?_;walk_nrm;refine EE.value (.pointer (some ⟨x.Fd,0,none⟩)) rfl rfl (by k_ne) (λ_=>by go_simp) (λ_=>by simp[go_sem]) ?_;walk_nrm;refine EE.raw w cl rfl (λd=>⟨_,qlk rfl rfl (by k_ne) rfl Tryz.func180 (by kernel_rfl) (by kernel_rfl) (by kernel_rfl) .u32 (by kernel_rfl) rfl (hcell d),?_⟩) (qgw _) (λ_ _=>rfl) hc0 ?_
 ·intro e he;simp at he;subst he;exact qbk hcl hsz
 walk_nrm;clear hcell hFd;cases v with
 | false=>
  simp only[if_false,qho];refine EE.value (.bool false) rfl rfl (by k_ne) (λ_=>by go_simp) (λ_=>by simp[go_sem]) ?_;walk_nrm;refine EE.value (.bool false) rfl rfl (by k_ne) (λ_=>by go_simp) (λ_=>by simp[go_sem]) ?_;walk_nrm;refine EE.region_end ?_;refine EE.retS ?_;refine EE.leave1 rfl rfl qne rfl ?_;walk_nrm;refine EE.value (.bool false) rfl rfl (by k_ne) (λ_=>by go_simp) (λ_=>by simp[go_sem]) ?_;walk_nrm;refine EE.region_end ?_;refine EE.retS ?_;exact hend _ _ rfl
 | true=>
  simp only[if_true];refine EE.value (.bool true) rfl rfl (by k_ne) (λ_=>by go_simp) (λ_=>by simp[go_sem]) ?_;walk_nrm;refine EE.value (.bool true) rfl rfl (by k_ne) (λ_=>by go_simp) (λ_=>by simp[go_sem]) ?_;walk_nrm;refine EE.region_end ?_;refine EE.retS ?_;refine EE.leave1 rfl rfl qne rfl ?_;walk_nrm;refine EE.value (.bool true) rfl rfl (by k_ne) (λ_=>by go_simp) (λ_=>by simp[go_sem]) ?_;walk_nrm;refine EE.region_end ?_;refine EE.retS ?_;exact hend _ _ rfl
end
end Go.Proofs.YtidgnkmjgioapaaGreat
end
section
namespace Go.Proofs.YtidgnkmjgioapaaGreat
open Go Go.RowKit Go.Conc Go.ConcN Go.ConcN.Gen Go.Conc.Lib Go.ConcR.Gen Go.Co Go.Sim
namespace Ph4
noncomputable def on(x:Ph4)(cs:List qgH):Ph4:={ x with Fin:=λg w=>qmc qh3 true (LR 166 x.Wg) qna (F0 x cs) 40 g w,AnchW:=ZN link x.Wg (q5D x) cs }
theorem qfH{ty:qh5}{Wg:Nat}(w:qgt)(d:Nat):LR ty Wg w (w.at d):=λ⟨st,sm,h⟩=>⟨st,sm,h⟩
theorem all{x:Ph4}{cs:List qgH}(o:(x.on cs).Ok)(hend:∀t todo w (v:Bool),(v=true↔∃i,i<x.N/\x.bad i=true)->(x.on cs).cfg.Ph w->t.getD 6 qgz=.bool v->EE qh3 x.Post (flat x.clA) (G { (qhf 85).at ⟨t,[]⟩ todo with mode:=.returning } cs) w):(x.on cs).cfg.Ok :=
 o.cfg (qc1 (cs:=cs) rfl) (qdv (cs:=cs) rfl rfl) λW ls g w hF hJ hf hd hp=>by
  have a6:qmc qh3 true (LR 166 x.Wg) qna (F0 x cs) 40 g (w.at w.drawn):=hF;refine(EE.of_goes (λw d=>qfH w d) (λg d hg=>?_) a6) w.drawn;obtain⟨rfl,_⟩:=hg;refine after (v:=W.2) hd.2 ?_ (λb hb=>?_) λt todo ht=>hend t todo w W.2 (J.final hJ hf) hp ht
  ·have:=o.sync x.Fd (by simp[jks,on]);unfold flat;rw[show(x.on cs).clA x.Fd=.sync from this]
  ·have:=o.cla0 b (qgE hp.size hb);unfold flat;rw[show(x.on cs).clA b=.mine 0 from this]
end Ph4
def q1n(n lo:Nat)(cl:Nat->Cl)(b:Nat):Cl:=match cl b with | .mine 0=>if b<n then .ro lo else .mine 0 | c=>c
theorem JP{n lo b:Nat}{cl:Nat->Cl}(h:cl b=.mine 0)(hb:b<n):q1n n lo cl b=.ro lo:=by unfold q1n;rw[h];simp[hb]
theorem Ys{n lo b:Nat}{cl:Nat->Cl}(h:cl b=.mine 0)(hb:n<=b):q1n n lo cl b=.mine 0:=by unfold q1n;rw[h];simp;omega
theorem JO{n lo b:Nat}{cl:Nat->Cl}(h:cl b≠.mine 0):q1n n lo cl b=cl b:=by
 unfold q1n;cases hc:cl b with
 | mine g=>
  cases g with
  | zero=>exact absurd hc h
  | succ g=>rfl
 | ro lo'=>rfl
 | sync=>rfl
def xd(Y V B A:Nat)(bl:List Nat):List Nat:=0::Y::V::B::A::bl
theorem qfy{M:Nat}{Post:qgx->qgt->Prop}[JunkSet]{w0:qgt}{cl0:Nat->Cl}{ρ0:Ren}{yb pb vb ab:Option qi2}{ps:List Par}{yc pn pc vn vc N ac:Nat}{lim:Int}{Y B V A Nx Fd Wg:Nat}{O:Ren}{wq:qgt}{w:qgt}{cl:Nat->Cl}{cs:List qgH}{l wl:List Int}{c:Nat->Nat->Int}{bl:List Nat}(h5:At5 Ya M w0 cl0 ρ0 yb pb vb ab ps.length yc pn pc vn vc N ac lim Y B V A Nx Fd Wg O wq w cl)(c8:∀b∈bl,cl b=.mine 0/\∃cs e f,w.heap[b]?=some (.cells cs e f)/\∀(i:Nat) v,cs[i]?=some v->∃k m,v=.int k m)(h0:∃cs e f,w.heap[0]?=some (.cells cs e f)/\∀(i:Nat) v,cs[i]?=some v->∃k m,v=.int k m)(hc0:cl 0=.mine 0)(b7:∀a,yb=some a->a.block∈bl)(b9:∀a,pb=some a->a.block∈bl)(b8:∀a,vb=some a->a.block∈bl)(hab:∀a,ab=some a->a.block∈bl)(pars:qw 0 w.heap.size w (.slice yb ps.length yc) ps)(ints:qe 0 w.heap.size w (.slice vb vn vc) wl)(intp:qe 0 w.heap.size w (.slice pb pn pc) l)(cas:kV 0 w.heap.size w (.slice ab N ac) N c)(n5:ps.length<=5)(bmn:∀i,0<=pre Par.mn ps ps.length i/\pre Par.mn ps ps.length i<=1000)(bmx:∀i,0<=pre Par.mx ps ps.length i/\pre Par.mx ps ps.length i<=1000)(bc:∀i d,0<=c i d/\c i d<=1000)(hl:∀y∈l,0<=y/\y<ps.length)(ll:l.length<=1000)(hwl:∀y∈wl,0<=y/\y<5)(hN:N<=900000)(hend:∀t todo w6 cl6 (v:Bool),(v=true↔∃i,i<N/\(qu ps (ovr (c i) (pre Par.mn ps ps.length) wl wl.length) l && !qu ps (ovr (c i) (pre Par.mx ps ps.length) wl wl.length) l)=true)->(∀b,b<w.heap.size->cl b=.mine 0->w6.heap[b]?=w.heap[b]?)->w.heap.size<=w6.heap.size->w6.os=w.os->w6.output=w.output ->(∀b,cl b=.mine 0->cl6 b=.mine 0)->(∀b,w6.heap.size<=b->cl6 b=.mine 0)->t.getD 6 qgz=.bool v->EE qh3 Post cl6 (G { (qhf 85).at ⟨t,[]⟩ todo with mode:=.returning } cs) w6) :EE qh3 Post cl (G ((qhf 85).at ⟨qei yb pb vb ab ps.length yc pn pc vn vc N ac lim Y B V A Nx Fd Wg 0 qgz undef undef undef,[]⟩ [.code Q0,.code xG]) cs) w:=by
 have e1:Q0=.block 0 (.loop yA):=by kernel_rfl
 rw[e1];refine EE.block ?_;refine EE.loop ?_;intro d;refine E.crowd (U:=Nat × Bool) (X:=Lam) λlo hlo=>?_
 let x:Ph4:={ W1:=w.at d,clA:=q1n w.heap.size lo cl,lo:=lo,Wg:=Wg,Nx:=Nx,A:=A,Fd:=Fd,Y:=Y,V:=V,B:=B,ps:=ps,lim:=lim,l:=l,wl:=wl,N:=N,c:=c,yb:=yb,yc:=yc,ab:=ab,ac:=ac,pv:=.slice pb pn pc,vv:=.slice vb vn vc,nds:=xd Y V B A bl,Post:=Post,Fin:=λ_ _=>False,AnchW:=λ_ _=>False }
 have qA:∀{b:Nat} {o:Obj},w.heap[b]?=some o->b<w.heap.size:=λh=>(qgu.1 h).1;have b0:∀b∈xd Y V B A bl,cl b=.mine 0/\b<w.heap.size:=by
  intro b hb;simp only[xd,qif] at hb;obtain⟨d5,e0,f0,h0,c3⟩:=h0;rcases hb with rfl | rfl | rfl | rfl | rfl | hb
  ·exact⟨hc0,qA h0⟩
  ·exact⟨h5.cY,qA h5.hY⟩
  ·exact⟨h5.cV,qA h5.hV⟩
  ·exact⟨h5.cB,qA h5.hB⟩
  ·exact⟨h5.cA,qA h5.hA⟩
  ·obtain⟨k1,cs,e,f,k2,_⟩:=c8 b hb;exact⟨k1,qA k2⟩
 have c9:∀b∈xd Y V B A bl,x.clA b=.ro lo:=λb hb=>JP (b0 b hb).1 (b0 b hb).2;have b6:∀b∈[Wg,Nx,Fd],cl b=.sync/\b<w.heap.size:=by
  intro b hb;simp only[qif,qiD,or_false] at hb;rcases hb with rfl | rfl | rfl
  ·exact⟨h5.cWg,qA h5.hWg⟩
  ·exact⟨h5.cNx,qA h5.hNx⟩
  ·exact⟨h5.cFd,qA h5.hFd⟩
 have a6:∀{a:qi2},a.block∈bl->a.block∈xd Y V B A bl:=λh=>by simp[xd,h]
 have d6:∀b∈xd Y V B A bl,BR x.r0 b b:=λb hb=>Jz.2 ⟨(b0 b hb).2,rfl,.inl hb⟩;have a8:∀(q:Option qi2) (m k:Nat),(∀a,q=some a->a.block∈bl)->@VR x.js x.r0 (.slice q m k) (.slice q m k):=λq m k hq=>by
  cases q with
  | none=>exact @VR.sliceNil x.js _ m k
  | some a=>exact @VR.slice x.js _ _ _ a.off a.spot m k (d6 _ (a6 (hq a rfl)))
 have a9:∀(v:qgx),@VR x.js x.r0 v v->∀(i:Nat) (u:qgx),(#[v]:Array qgx)[i]?=some u->@VR x.js x.r0 u u:=λv hv i u hu=>by
  cases i with
  | zero=>simp at hu;rw[<- hu];exact hv
  | succ i=>simp at hu
 have o:(x.on cs).Ok:={
  hlo:=hlo
  hY:=h5.hY
  hV:=h5.hV
  hB:=h5.hB
  hA:=h5.hA
  pars:=pars
  ints:=ints
  intp:=intp
  cas:=cas
  n5:=n5
  bmn:=bmn
  bmx:=bmx
  bc:=bc
  hl:=hl
  ll:=ll
  hwl:=hwl
  hN:=hN
  jlt:=λb hb=>(b6 b hb).2
  ne1:=by have:=h5.l2;show Nx≠Fd;omega
  ne2:=by have:=h5.l2;have:=h5.l3;show Wg≠Nx;omega
  ne3:=by have:=h5.l3;show Wg≠Fd;omega
  sync:=λb hb=>by
   have h1:=(b6 b hb).1;exact(JO (by rw[h1];simp)).trans h1
  nro:=c9
  nok:=by
   intro b hb;have hb':b∈xd Y V B A bl:=hb;simp only[xd,qif] at hb';obtain⟨d5,e0,f0,h0,c3⟩:=h0;rcases hb' with rfl | rfl | rfl | rfl | rfl | hb'
   ·exact⟨_,_,_,h0,λi v hv=>by obtain⟨k,m,rfl⟩:=c3 i v hv;exact @VR.int (x.on cs).js _ k m⟩
   ·refine⟨_,_,_,h5.hY,λi v hv=>?_⟩;have hi:i=0\/i=1:=by
     have:=(qgu.1 hv).1;simp at this;omega
    rcases hi with rfl | rfl
    ·simp at hv;rw[<- hv];exact a8 _ _ _ b7
    ·simp at hv;rw[<- hv];exact @VR.int x.js _ _ _
   ·exact⟨_,_,_,h5.hV,a9 _ (a8 _ _ _ b8)⟩
   ·exact⟨_,_,_,h5.hB,a9 _ (a8 _ _ _ b9)⟩
   ·exact⟨_,_,_,h5.hA,a9 _ (a8 _ _ _ hab)⟩
   ·obtain⟨k1,d7,e,f,k2,k3⟩:=c8 b hb';refine⟨_,_,_,k2,λi v hv=>?_⟩;obtain⟨k,m,rfl⟩:=k3 i v hv;exact @VR.int x.js _ _ _
  n0:=by show 0∈xd Y V B A bl;simp[xd]
  nY:=by show Y∈xd Y V B A bl;simp[xd]
  nV:=by show V∈xd Y V B A bl;simp[xd]
  nB:=by show B∈xd Y V B A bl;simp[xd]
  nA:=by show A∈xd Y V B A bl;simp[xd]
  nyb:=λq oo n' c' e _=>by cases e;exact a6 (a:=⟨q,oo,none⟩) (b7 _ rfl)
  nvv:=λq oo n' c' e _=>by cases e;exact a6 (a:=⟨q,oo,none⟩) (b8 _ rfl)
  npv:=λq oo n' c' e _=>by cases e;exact a6 (a:=⟨q,oo,none⟩) (b9 _ rfl)
  nab:=λq oo n' c' e _=>by cases e;exact a6 (a:=⟨q,oo,none⟩) (hab _ rfl)
  cla0:=λb hb=>by
   have hb':w.heap.size<=b:=hb;exact Ys (h5.c0 b hb') hb' }
 refine⟨(x.on cs).cfg,rfl,rfl,rfl,rfl,Ph4.all o ?_,λb hb=>?_,?_,h5.hWg,(0,false),λ_=>.st,⟨h5.hNx,h5.hFd⟩,?_⟩
 ·intro t todo w6 v hv hp ht;refine hend t todo w6 _ v hv (λb hb hc=>?_) hp.size hp.os hp.output (λb hb=>?_) (λb hb=>?_) ht
  ·exact hp.fz b ⟨hb,JP hc hb⟩
  ·show flat (q1n w.heap.size lo cl) b=_;unfold flat;rcases qiA b w.heap.size with a7 | a7
   ·rw[JP hb a7]
   ·rw[Ys hb a7]
  ·show flat (q1n w.heap.size lo cl) b=_;have a7:w.heap.size<=b:=qgE hp.size hb;unfold flat;rw[Ys (h5.c0 b a7) a7]
 ·have hb':b<w.heap.size:=hb;cases hc:cl b with
  | mine g=>
   cases g with
   | zero=>exact .inr ⟨rfl,JP hc hb'⟩
   | succ g=>exact .inl ((JO (by rw[hc];simp)).trans hc)
  | ro lo'=>exact .inl ((JO (by rw[hc];simp)).trans hc)
  | sync=>exact .inl ((JO (by rw[hc];simp)).trans hc)
 ·have hsp:=(qes (x:=x.on cs) (cs:=cs) rfl (min 4 N) 0 (by show 0+min 4 N=min 4 N;omega)).1 (w.at d) ⟨_,_,h5.hWg⟩;exact hsp
 ·exact⟨qhz _,λh=>(by cases h),λ_ i _ h=>absurd h (Nat.not_lt_zero i),λk hk=>absurd hk (Nat.not_lt_zero k)⟩
end Go.Proofs.YtidgnkmjgioapaaGreat
end
namespace Go.Proofs.YtidgnkmjgioapaaGreat
section
open Go Go.RowKit Go.Conc Go.ConcN Go.ConcN.Gen Go.Conc.Lib Go.ConcR.Gen Go.Co Go.Sim
def qW(w:qgt)(B:Nat):Prop:=∃cs e f,w.heap[B]?=some (.cells cs e f)/\∀(i:Nat) v,cs[i]?=some v->∃k m,v=.int k m
def qQ(w:qgt)(v:qgx):Prop:=∀ad n c,v=.slice (some ad) n c->qW w ad.block
section
variable[JunkSet]{Q:qgG}{Z:Ren}{wq w:qgt}{M:Nat}
theorem qd2{cs cs':Array qgx}(h:AsR Z cs cs')(hi:∀(i:Nat) v,cs[i]?=some v->∃k m,v=.int k m):cs'=cs:=by
 refine Array.ext h.1.symm λi h1 h2=>?_;obtain⟨k,m,e⟩:=hi i cs[i] (qhg h2);have hv:=h.2 i _ _ (qhg h2) (qhg h1);rw[e] at hv ⊢;generalize cs'[i]=y at hv;cases hv;rfl
theorem q9b(hw:WR Q M Z wq w)(a6:∀i,¬ JunkSet.jk i){i j:Nat}(hij:BR Z i j){cs:Array qgx}{e:qh5}{f:Nat × Nat}(h:wq.heap[i]?=some (.cells cs e f))(hi:∀(i:Nat) v,cs[i]?=some v->∃k m,v=.int k m):∃f',w.heap[j]?=some (.cells cs e f'):=by
 rcases hw.obj i j _ hij h with⟨h1,_⟩ | ⟨_,o',h2,h3⟩
 ·exact absurd h1 (a6 i)
 ·cases h3 with
  | cells e ha _=>
   rw[qd2 ha hi] at h2;exact⟨_,h2⟩
theorem q99(hw:WR Q M Z wq w)(a6:∀i,¬ JunkSet.jk i){i j:Nat}(hij:BR Z i j)(h:qW wq i):qW w j:=by
 obtain⟨cs,e,f,h1,h2⟩:=h;obtain⟨f',h3⟩:=q9b hw a6 hij h1 h2;exact⟨cs,e,f',h3,h2⟩
theorem q4C(hw:WR Q M Z wq w)(a6:∀i,¬ JunkSet.jk i){i j:Nat}(hij:BR Z i j)(hI:qW wq i){cs:Array qgx}{e:qh5}{f:Nat × Nat}(h:wq.heap[i]?=some (.cells cs e f)):∃f',w.heap[j]?=some (.cells cs e f')/\j<w.heap.size:=by
 obtain⟨a7,e1,f1,h1,h2⟩:=hI;rw[h] at h1;cases h1;obtain⟨f',h3⟩:=q9b hw a6 hij h h2;exact⟨f',h3,(qgu.1 h3).1⟩
theorem q6k(hw:WR Q M Z wq w)(a6:∀i,¬ JunkSet.jk i){lo hi:Nat}{v v':qgx}{l:List Int}(h:qe lo hi wq v l)(hI:qQ wq v)(hv:VR Z v v'):qe 0 w.heap.size w v' l:=by
 obtain⟨base,cap,rfl,hl,hr⟩:=h;cases hv with
 | sliceNil=>exact⟨none,cap,rfl,hl,λhne=>by obtain⟨B,o,cs,fr,e,_⟩:=hr hne;cases e⟩
 | @slice i j off spot _ _ hij=>
  refine⟨_,cap,rfl,hl,λhne=>?_⟩;obtain⟨B,o,cs,fr,e,_,_,h4,h5⟩:=hr hne;cases e;obtain⟨f',h6,h7⟩:=q4C hw a6 hij (hI _ _ _ rfl) h4;exact⟨j,off,cs,f',rfl,qhz _,h7,h6,h5⟩
theorem qce(hw:WR Q M Z wq w)(a6:∀i,¬ JunkSet.jk i){lo hi:Nat}{v v':qgx}{l:List Par}(h:qw lo hi wq v l)(hI:qQ wq v)(hv:VR Z v v'):qw 0 w.heap.size w v' l:=by
 obtain⟨base,cap,rfl,hl,hr⟩:=h;cases hv with
 | sliceNil=>exact⟨none,cap,rfl,hl,λhne=>by obtain⟨B,o,cs,fr,e,_⟩:=hr hne;cases e⟩
 | @slice i j off spot _ _ hij=>
  refine⟨_,cap,rfl,hl,λhne=>?_⟩;obtain⟨B,o,cs,fr,e,_,_,h4,h5⟩:=hr hne;cases e;obtain⟨f',h6,h7⟩:=q4C hw a6 hij (hI _ _ _ rfl) h4;exact⟨j,off,cs,f',rfl,qhz _,h7,h6,h5⟩
theorem q9a(hw:WR Q M Z wq w)(a6:∀i,¬ JunkSet.jk i){lo hi:Nat}{v v':qgx}{n:Nat}{c:Nat->Nat->Int}(h:kV lo hi wq v n c)(hI:qQ wq v)(hv:VR Z v v'):kV 0 w.heap.size w v' n c:=by
 obtain⟨base,cap,rfl,hl,hr⟩:=h;cases hv with
 | sliceNil=>exact⟨none,cap,rfl,hl,λhne=>by obtain⟨B,o,cs,ty,fr,e,_⟩:=hr hne;cases e⟩
 | @slice i j off spot _ _ hij=>
  refine⟨_,cap,rfl,hl,λhne=>?_⟩;obtain⟨B,o,cs,ty,fr,e,_,_,h4,h5⟩:=hr hne;cases e;obtain⟨f',h6,h7⟩:=q4C hw a6 hij (hI _ _ _ rfl) h4;exact⟨j,off,cs,ty,f',rfl,qhz _,h7,h6,h5⟩
theorem JL{cl:Nat->Cl}(hw:WR Q M Z wq w)(a6:∀i,¬ JunkSet.jk i)(ho:kK cl Z){q q0:Option qi2}{n c:Nat}(hI:qQ wq (.slice q0 n c))(hv:VR Z (.slice q0 n c) (.slice q n c)):∀ad,q=some ad->cl ad.block=.mine 0/\qW w ad.block:=by
 rintro ad rfl;cases hv with
 | slice off spot _ _ hij=>exact⟨ho _ _ hij,q99 hw a6 hij (hI _ _ _ rfl)⟩
theorem q94{v:qgx}(h:VR Z qgz v):v=qgz:=by
 unfold qgz at h;cases h with
 | tuple hs _=>
  have:=qlw (by simpa using hs.symm);rw[this];rfl
theorem qfd{q:Option qi2}{n c:Nat}{m:Int}{y:qgx}(h:VR Z (.agg #[.slice q n c,.int .i64 m]) y):∃q',y=.agg #[.slice q' n c,.int .i64 m]/\VR Z (.slice q n c) (.slice q' n c):=by
 cases h with
 | @agg _ a' hs hv=>
  have h2:a'.size=2:=by simpa using hs.symm
  have h0:=hv 0 (.slice q n c) _ rfl (qhg (by omega));have h1:=hv 1 (.int .i64 m) _ rfl (qhg (by omega));obtain⟨q',e0⟩:∃q',a'[0]'(by omega)=.slice q' n c:=by
   generalize a'[0]'(by omega)=z at h0;cases h0<;>exact⟨_,rfl⟩
  have e1:a'[1]'(by omega)=.int .i64 m:=by
   generalize a'[1]'(by omega)=z at h1;cases h1;rfl
  rw[e0] at h0;refine⟨q',?_,h0⟩
  congr 1
  refine Array.ext (by simp[h2]) λi h3 h4=>?_;obtain rfl | rfl:i=0\/i=1:=by omega
  ·exact e0
  ·exact e1
theorem qfs{x0 x1 x2:qgx}{tp:Array qgx}{n:Nat}(h:AsR Z (#[x0,x1,x2]++qhC n qgz) tp):∃y0 y1 y2,tp=#[y0,y1,y2]++qhC n qgz/\VR Z x0 y0/\VR Z x1 y1/\VR Z x2 y2:=by
 have hs:tp.size=3+n:=by rw[<- h.1];simp
 have g:∀i (hi:i<tp.size) x,(#[x0,x1,x2]++qhC n qgz:Array qgx)[i]?=some x->VR Z x tp[i]:=λi hi x hx=>h.2 i x _ hx (qhg hi);refine⟨tp[0]'(by omega),tp[1]'(by omega),tp[2]'(by omega),?_,g 0 (by omega) x0 (by simp[qkg]),g 1 (by omega) x1 (by simp[qkg]),g 2 (by omega) x2 (by simp[qkg])⟩;refine Array.ext (by simp[hs]) λi h1 h2=>?_;by_cases hi:i<3
 ·obtain rfl | rfl | rfl:i=0\/i=1\/i=2:=by omega
  all_goals simp[qpe]
 ·have h3:i - 3<n:=by omega
  have e:(#[x0,x1,x2]++qhC n qgz:Array qgx)[i]?=some qgz:=by
   rw[Array.getElem?_append_right (by simp;omega),Array.getElem?_replicate];simp[h3]
  have:=q94 (g i h1 qgz e);rw[this];simp[qpe,hi]
end
def Cas(N:Nat)(c:Nat->Nat->Int)(wq:qgt)(v:qgx)(u:qgt):Prop:=kV 0 u.heap.size u v N c/\qQ u v/\(wq.tp u.tape).grownBy u none
theorem q76:Tryz.f85.results=#[.tmp 6]:=rfl
theorem qbe:Tryz.f85.ntmps=24:=rfl
section
variable[J:JunkSet]{f:qi8}{Post:qgx->qgt->Prop}{W:qgt}
theorem EL.doubtful(D:Two Ya qh3)(hok:JunkSet.okf 137)(a6:∀i,¬ JunkSet.jk i)(hin:Ya.inits.idxOf? f=none)(hfs:∃g,Ya.funcs[f]?=some g/\Tryz.prog.funcs[f]?=some g){b:qgH}{a:Act}{k:List qkz}{cs:List qgH}{wq:qgt}(hb:Bot f cs)(hs:Ya.funcs[b.fn]?=Tryz.prog.funcs[b.fn]?){ops:Array qiu}{i:Nat}{rest:List Nat}{o:qiu}(ho:ops[i]?=some o)(hw:qhD o (qjn ops a.tmps)=true){ybq pbq vbq:Option qi2}{ps:List Par}{l wl:List Int}{yc pc vc N:Nat}{c:Nat->Nat->Int}{lim:Int}(c8:∀T,(qk5 a.eval o).run Ya (wq.tp T)=.ok (.enter 85 #[.agg #[.slice ybq ps.length yc,.int .i64 lim],.slice pbq l.length pc,.slice vbq wl.length vc]) (wq.tp T))(pars:qw 0 wq.heap.size wq (.slice ybq ps.length yc) ps)(yi:qQ wq (.slice ybq ps.length yc))(intp:qe 0 wq.heap.size wq (.slice pbq l.length pc) l)(pi:qQ wq (.slice pbq l.length pc))(ints:qe 0 wq.heap.size wq (.slice vbq wl.length vc) wl)(vi:qQ wq (.slice vbq wl.length vc))(h0:qW wq 0)(n5:ps.length<=5)(bmn:∀i,0<=pre Par.mn ps ps.length i/\pre Par.mn ps ps.length i<=1000)(bmx:∀i,0<=pre Par.mx ps ps.length i/\pre Par.mx ps ps.length i<=1000)(bc:∀i d,0<=c i d/\c i d<=1000)(hl:∀y∈l,0<=y/\y<ps.length)(ll:l.length<=1000)(hwl:∀y∈wl,0<=y/\y<5)(hN:N<=900000)(d6:∀T,qhx Ya 137 #[.agg #[.slice ybq ps.length yc,.int .i64 lim],.slice vbq wl.length vc] (wq.tp T) λe u=>∃v,e=.returned v/\Cas N c wq v u)(hend:∀u (v:Bool),(v=true↔∃i,i<N/\(qu ps (ovr (c i) (pre Par.mn ps ps.length) wl wl.length) l && !qu ps (ovr (c i) (pre Par.mx ps ps.length) wl wl.length) l)=true)->(wq.tp u.tape).grownBy u none ->EL Ya qh3 f Post W (G ((b.at a (.inRegion ops (i::rest)::k)).finish (.bool v)) cs) u) :EL Ya qh3 f Post W (G (b.at a (.inRegion ops (i::rest)::k)) cs) wq:=by
 obtain⟨fq,e5,d9⟩:∃fq,Ya.funcs[85]?=some fq/\fq.ntmps=Tryz.f85.ntmps:=by
  have h1:(Ya.funcs[85]?).map (·.ntmps)=some 24:=by kernel_rfl
  cases hq:Ya.funcs[85]? with
  | none=>rw[hq] at h1;cases h1
  | some fq=>rw[hq] at h1;exact⟨fq,rfl,by simpa using h1⟩
 refine EL.enterK D hb hs ho hw c8 ne85 e5 Tryz.func85 d9 (c0:=Tryz.f85.body.getD .skip) (by kernel_rfl) ?_;intro Z tp c' g6 pre' w cl hcs hK;rw[qbe] at hK;obtain⟨y0,y1,y2,rfl,v0,v1,v2⟩:=qfs (n:=21) (by simpa using hK.tm);obtain⟨yb,rfl,vy⟩:∃yb,y0=.agg #[.slice yb ps.length yc,.int .i64 lim]/\VR Z (.slice ybq ps.length yc) (.slice yb ps.length yc):=qfd v0;obtain⟨pb,rfl⟩:∃pb,y1=.slice pb l.length pc:=by cases v1<;>exact⟨_,rfl⟩
 obtain⟨vb,rfl⟩:∃vb,y2=.slice vb wl.length vc:=by cases v2<;>exact⟨_,rfl⟩
 have b7:EE qh3 Post cl (G ((qhf 85).at ⟨#[.agg #[.slice yb ps.length yc,.int .i64 lim],.slice pb l.length pc,.slice vb wl.length vc]++qhC 21 qgz,[]⟩ [.code (Tryz.f85.body.getD .skip)]) (c'::pre')) w:=by
  refine qfn D hok (Rc:=Cas N c wq) hK.c0 hK.ln hK.wr hK.gl hK.own v0 v2 a6 d6 (λv u h=>by obtain⟨⟨b1,c1,e,_⟩,_⟩:=h;exact⟨b1,N,c1,e⟩) ?_;intro O wq1 v Y B V A Nx Fd Wg ab N' ac w5 cl5 e9 b6 h5;obtain⟨b0,d7,a8⟩:=e9;obtain⟨b1,c1,rfl,g8,g9⟩:=id b0;obtain⟨rfl,rfl⟩:N'=N/\ac=c1:=by cases b6<;>exact⟨rfl,rfl⟩
  have gb:∀{B:Nat},qW wq B->qW wq1 B:=λ⟨g5,e,g,h1,h2⟩=>⟨g5,e,g,by rw[a8.block _ (qgu.1 h1).1 (by simp)];exact h1,h2⟩;have gi:∀{v:qgx},qQ wq v->qQ wq1 v:=λh ad n c e=>gb (h ad n c e);have b8:=vy.mono h5.le;have c9:=v1.mono h5.le;have c3:=v2.mono h5.le;have t1:=JL h5.wr a6 h5.own (gi yi) b8;have t2:=JL h5.wr a6 h5.own (gi pi) c9;have t3:=JL h5.wr a6 h5.own (gi vi) c3;have t4:=JL h5.wr a6 h5.own d7 b6
  let bl:List Nat:=(yb.toList++pb.toList++vb.toList++ab.toList).map (·.block)
  have e7:∀b∈bl,cl5 b=.mine 0/\qW w5 b:=by
   intro b hb;simp only[bl,qkn,qiF,qqc] at hb;obtain⟨ad,(((h | h) | h) | h),rfl⟩:=hb
   ·exact t1 ad h
   ·exact t2 ad h
   ·exact t3 ad h
   ·exact t4 ad h
  have a7:∀{q:Option qi2},q∈[yb,pb,vb,ab]->∀ad,q=some ad->ad.block∈bl:=by
   intro q hq ad e;subst e;simp only[qif,qiD,or_false] at hq;simp only[bl,qkn,qiF,qqc];refine⟨ad,?_,rfl⟩;rcases hq with h | h | h | h<;>simp[<- h]
  have d8:BR O 0 0:=(hK.gl 0 (qhz _)).mono h5.le;refine qfy h5 e7 ?_ (h5.own _ _ d8) (a7 (by simp)) (a7 (by simp)) (a7 (by simp)) (a7 (by simp)) (qce h5.wr a6 (show qw 0 wq.heap.size wq1 _ ps from pars.kept (w:=wq.tp wq1.tape) a8 (by simp)) (gi yi) b8) (q6k h5.wr a6 (show qe 0 wq.heap.size wq1 _ wl from ints.kept (w:=wq.tp wq1.tape) a8 (by simp)) (gi vi) c3) (q6k h5.wr a6 (show qe 0 wq.heap.size wq1 _ l from intp.kept (w:=wq.tp wq1.tape) a8 (by simp)) (gi pi) c9) (q9a h5.wr a6 b0 d7 b6) n5 bmn bmx bc hl ll hwl hN ?_
  ·obtain⟨cs,e,g,h0,e4⟩:=h0;have h1:wq1.heap[0]?=some (.cells cs e g):=by rw[a8.block 0 (qgu.1 h0).1 (by simp)];exact h0
   exact q99 h5.wr a6 d8 ⟨cs,e,g,h1,e4⟩
  ·intro t todo w6 cl6 v hv hfz hsz d5 hout a9 e6 ht;have e8:W.heap.size<=w.heap.size:=hK.kp.size;have c5:∀b,b<W.heap.size->cl5 b=.mine 0:=λb hb=>(h5.cold b (qh2 hb e8)).trans (hK.om b hb);have g7:w.heap.size<=w5.heap.size:=h5.kp.size;refine EE.pure (g':=G (c'.finish (.bool v)) pre') rfl (λw=>?_) λd=>?_
   ·have hr:(qk1 qkw t).run qh3 w=.ok (.bool v) w:=by rw[<- ht];exact results_tmp q76 t qh3 w
    exact stepG_leave (P:=qh3) (main:=true) (b:=qhf 85) (a:=⟨t,[]⟩) (cs:=pre') (c:=c') (todo:=todo) (fn:=qkw) rfl rfl Tryz.func85 hr (qmG q76 _ _)
   ·have b9:WR Ya W.heap.size O wq1 w6:=h5.wr.rely hsz (by rw[d5]) (λi j hij _=>hfz j (h5.wr.lt _ _ hij) (h5.own _ _ hij)) (λi j _ h=>absurd h (a6 i));have hE:=hend wq1 v hv a8;rw[hcs] at hE;refine EL.resume hE hin hfs h5.le hK.top hK.rest (.bool v) (q91 b9 d) h5.ln hK.gl (λi j hij=>a9 j (h5.own i j hij)) e6 ⟨λj hj hn=>?_,d5.trans (h5.kp.os.trans hK.kp.os),hout.trans (h5.kp.output.trans hK.kp.output),?_,λi j hij hi=>?_,?_⟩ λb hb=>a9 b (c5 b hb)
    ·show w6.heap[j]?=_;rw[hfz j (by omega) (c5 j hj),h5.kp.old j (by omega) hn,hK.kp.old j hj λi hi=>hn i (hi.mono h5.le)]
    ·show W.heap.size<=w6.heap.size;omega
    ·rcases h5.fr i j hij with h | h
     ·exact hK.kp.inn i j h hi
     ·omega
    ·show W.heap.size<=w6.heap.size;omega
 have:=b7 w.drawn;exact this
end
end
section
open Go Go.RowKit Go.Co Go.Sim
def q69(ps:List Par)(wl:List Int):Nat:=(yN ps wl).length
def KL(ps:List Par)(wl:List Int)(i d:Nat):Int:=((yN ps wl)[i]?.getD λ_=>0) d
theorem qdn(ps:List Par)(hp:∀p∈ps,0<=p.mn/\p.mn<=p.mx/\p.mx<=1000)(wl:List Int):∀g∈yN ps wl,∀d,0<=g d/\g d<=1000:=by
 have key:∀(wl:List Int) (L:List (Nat->Int)),(∀g∈L,∀d,0<=g d/\g d<=1000)->∀g∈wl.foldl (kS ps) L,∀d,0<=g d/\g d<=1000:=by
  intro wl;induction wl with
  | nil=>exact λL h=>h
  | cons x wl ih=>
   intro L h;refine ih _ λg hg d=>?_;unfold kS at hg;split at hg
   ·rename_i p a6
    obtain⟨h1,h2,h3⟩:=hp p (qhc a6);unfold yW at hg;rw[qnm] at hg;obtain⟨g0,a7,hg⟩:=hg;unfold kQ at hg;rw[qkn] at hg;obtain⟨m,hm,rfl⟩:=hg;rw[qj3] at hm;unfold kOf at hm;unfold Yq;split
    ·omega
    ·exact h g0 a7 d
   ·exact h g hg d
 exact key wl _ λg hg d=>by simp at hg;subst hg;simp
theorem qdo(ps:List Par)(hp:∀p∈ps,0<=p.mn/\p.mn<=p.mx/\p.mx<=1000)(wl:List Int)(i d:Nat):0<=KL ps wl i d/\KL ps wl i d<=1000:=by
 unfold KL;cases h:(yN ps wl)[i]? with
 | none=>simp
 | some g=>exact qdn ps hp wl g (qhc h) d
theorem qf9{lo hi:Nat}{yv vv:qgx}{ps:List Par}{lim:Int}{wl:List Int}{wq:qgt}(hY:jo lo hi wq yv ps lim)(hI:qe lo hi wq vv wl)(hhi:hi<=wq.heap.size)(h5:ps.length<=5)(hx:∀x∈wl,0<=x/\x<ps.length)(hp:∀p∈ps,0<=p.mn/\p.mn<=p.mx/\p.mx<=1000)(hN:∀j,j<=wl.length->(yN ps (wl.take j)).length<=900000)(T:Nat->qj1->Nat) :qhx Ya 137 #[yv,vv] (wq.tp T) λe u=>∃v,e=.returned v/\Cas (q69 ps wl) (KL ps wl) wq v u:=by
 refine(q8x lo hi yv vv ps lim wl (wq.tp T) hY hI hhi h5 hx hp hN).mono ?_;rintro e u ⟨v,rfl,hg,ho,hi⟩;have a8:q69 ps wl<=900000:=by have:=hN wl.length (qgw _);rwa [qiy] at this
 refine⟨v,rfl,?_,?_,?_⟩
 ·rcases ho.2 with⟨rfl,h0⟩ | ⟨g,cap,cur,rfl,hb,hgt,_,_,_,htake⟩
  ·have a7:q69 ps wl=0:=h0;exact⟨none,0,by rw[a7],by omega,λh=>by omega⟩
  ·refine⟨_,cap,rfl,by omega,λ_=>⟨g,0,cur,101,_,rfl,qhz _,(qgu.1 hgt).1,hgt,λi hi d hd=>?_⟩⟩;have a6:i<(yN ps wl).length:=hi;have h1:=q0A (yN ps wl) i _ (qgB a6) d hd;rw[<- htake,qlF] at h1;split at h1
   ·rw[qhd];unfold KL;rw[qgB a6];simpa using h1
   ·cases h1
 ·intro ad n c e;subst e;exact hi ad.block rfl
 ·have ht:u.tape=T:=hg.tape;rw[ht];exact hg
end
section
open Go Go.RowKit Go.Co Go.Sim Go.Conc Go.ConcN
theorem qaf{ps:List Par}{f:Par->Int}(hf:∀p∈ps,0<=f p/\f p<=1000)(k i:Nat):0<=pre f ps k i/\pre f ps k i<=1000:=by
 unfold pre;split
 ·cases h:ps[i]? with
  | none=>simp
  | some p=>exact hf p (qhc h)
 ·simp
def J5(ps:List Par)(l wl:List Int):Prop:=∃i,i<q69 ps wl/\(qu ps (ovr (KL ps wl i) (pre Par.mn ps ps.length) wl wl.length) l && !qu ps (ovr (KL ps wl i) (pre Par.mx ps ps.length) wl wl.length) l)=true
section
variable[J:JunkSet]{f:qi8}{Post:qgx->qgt->Prop}{W:qgt}
theorem EL.doubt(D:Two Ya qh3)(hok:JunkSet.okf 137)(a7:∀i,¬ JunkSet.jk i)(hin:Ya.inits.idxOf? f=none)(hfs:∃g,Ya.funcs[f]?=some g/\Tryz.prog.funcs[f]?=some g){b:qgH}{a:Act}{k:List qkz}{cs:List qgH}{wq:qgt}(hb:Bot f cs)(hs:Ya.funcs[b.fn]?=Tryz.prog.funcs[b.fn]?){ops:Array qiu}{i:Nat}{rest:List Nat}{o:qiu}(ho:ops[i]?=some o)(hw:qhD o (qjn ops a.tmps)=true){ybq pbq vbq:Option qi2}{ps:List Par}{l wl:List Int}{yc pc vc:Nat}{lim:Int}(a6:∀T,(qk5 a.eval o).run Ya (wq.tp T)=.ok (.enter 85 #[.agg #[.slice ybq ps.length yc,.int .i64 lim],.slice pbq l.length pc,.slice vbq wl.length vc]) (wq.tp T))(pars:qw 0 wq.heap.size wq (.slice ybq ps.length yc) ps)(yi:qQ wq (.slice ybq ps.length yc))(intp:qe 0 wq.heap.size wq (.slice pbq l.length pc) l)(pi:qQ wq (.slice pbq l.length pc))(ints:qe 0 wq.heap.size wq (.slice vbq wl.length vc) wl)(vi:qQ wq (.slice vbq wl.length vc))(h0:qW wq 0)(n5:ps.length<=5)(hp:∀p∈ps,0<=p.mn/\p.mn<=p.mx/\p.mx<=1000)(hl:∀y∈l,0<=y/\y<ps.length)(ll:l.length<=1000)(hwl:∀y∈wl,0<=y/\y<ps.length)(hN:∀j,j<=wl.length->(yN ps (wl.take j)).length<=900000)(hend:∀u (v:Bool),(v=true↔J5 ps l wl)->(wq.tp u.tape).grownBy u none->EL Ya qh3 f Post W (G ((b.at a (.inRegion ops (i::rest)::k)).finish (.bool v)) cs) u) :EL Ya qh3 f Post W (G (b.at a (.inRegion ops (i::rest)::k)) cs) wq:=by
 have a8:q69 ps wl<=900000:=by have:=hN wl.length (qgw _);rwa [qiy] at this
 exact EL.doubtful D hok a7 hin hfs hb hs ho hw (N:=q69 ps wl) (c:=KL ps wl) a6 pars yi intp pi ints vi h0 n5 (qaf (λp h=>by have:=hp p h;omega) _) (qaf (λp h=>by have:=hp p h;omega) _) (qdo ps hp wl) hl ll (λy hy=>by have:=hwl y hy;omega) a8
  (qf9 ⟨_,rfl,pars⟩ ints (qgw _) n5 hwl hp hN) λu v hv hg=>hend u v hv hg
end
end
section
open Go Go.RowKit Go.Co
section
variable{lo hi O:Nat}{w w':qgt}{v:qgx}
theorem kA{cs cs':Array qgx}{e e':qh5}{f f':Nat × Nat}{B:Nat}(h:w.heap[B]?=some (.cells cs e f))(hO:w.heap[O]?=some (.cells cs' e' f'))(hne:e≠e'):B≠O:=by
 rintro rfl;rw[h] at hO;cases hO;exact hne rfl
theorem qe.kept_ne{l:List Int}(h:qe lo hi w v l)(hg:w.grownBy w' (some O)){cs':Array qgx}{f':Nat × Nat}(hO:w.heap[O]?=some (.cells cs' 29 f')):qe lo hi w' v l:=by
 obtain⟨base,cap,rfl,hl,hr⟩:=h;refine⟨base,cap,rfl,hl,λhne=>?_⟩;obtain⟨B,o,cs,fr,e1,e2,e3,e4,e5⟩:=hr hne;exact⟨B,o,cs,fr,e1,e2,e3,blk hg (λe=>kA e4 hO (by decide) (by cases e;rfl)) e4,e5⟩
theorem qw.kept_ne{l:List Par}(h:qw lo hi w v l)(hg:w.grownBy w' (some O)){cs':Array qgx}{f':Nat × Nat}(hO:w.heap[O]?=some (.cells cs' 29 f')):qw lo hi w' v l:=by
 obtain⟨base,cap,rfl,hl,hr⟩:=h;refine⟨base,cap,rfl,hl,λhne=>?_⟩;obtain⟨B,o,cs,fr,e1,e2,e3,e4,e5⟩:=hr hne;exact⟨B,o,cs,fr,e1,e2,e3,blk hg (λe=>kA e4 hO (by decide) (by cases e;rfl)) e4,e5⟩
theorem qW.kept_ne{B:Nat}(h:qW w B)(hg:w.grownBy w' (some O)){a:Option qi2}{n c:Nat}{f':Nat × Nat}(hO:w.heap[O]?=some (.cells #[.slice a n c] 29 f')):qW w' B:=by
 obtain⟨cs,e,f,h1,h2⟩:=h;refine⟨cs,e,f,blk hg (λe=>?_) h1,h2⟩;cases e;rw[h1] at hO;cases hO;obtain⟨k,m,e⟩:=h2 0 _ rfl;cases e
theorem qQ.kept_ne(h:qQ w v)(hg:w.grownBy w' (some O)){a:Option qi2}{n c:Nat}{f':Nat × Nat}(hO:w.heap[O]?=some (.cells #[.slice a n c] 29 f')):qQ w' v:=λad m k e=>qW.kept_ne (h ad m k e) hg hO
end
end
section
open Go Go.RowKit Go.Co Go.Sim Go.Conc Go.ConcN
structure xH(w:qgt)(O Y L:Nat)(yb:Option qi2)(ps:List Par)(yc:Nat)(lim:Int)(pb:Option qi2)(l:List Int)(pc:Nat):Prop where
 out:∃b n c,w.heap[O]?=some (.cells #[.slice b n c] 29 (0,0))
 ya:w.heap[Y]?=some (.cells #[.slice yb ps.length yc,.int .i64 lim] 91 (0,0))
 pa:w.heap[L]?=some (.cells #[.slice pb l.length pc] 29 (0,0))
 ne:O≠L
 pars:qw 0 w.heap.size w (.slice yb ps.length yc) ps
 yi:qQ w (.slice yb ps.length yc)
 ints:qe 0 w.heap.size w (.slice pb l.length pc) l
 pi:qQ w (.slice pb l.length pc)
 h0:qW w 0
theorem xH.kept{w w':qgt}{O Y L:Nat}{yb:Option qi2}{ps:List Par}{yc:Nat}{lim:Int}{pb:Option qi2}{l:List Int}{pc:Nat}(h:xH w O Y L yb ps yc lim pb l pc)(hg:w.grownBy w' (some O))(ho:∃b n c,w'.heap[O]?=some (.cells #[.slice b n c] 29 (0,0))):xH w' O Y L yb ps yc lim pb l pc:=by
 obtain⟨b,n,c,hO⟩:=h.out;refine⟨ho,blk hg (λe=>kA h.ya hO (by decide) (by cases e;rfl)) h.ya,blk hg (λe=>h.ne (by cases e;rfl)) h.pa,h.ne,(h.pars.kept_ne hg hO).mono (qgw _) hg.size,h.yi.kept_ne hg hO,(h.ints.kept_ne hg hO).mono (qgw _) hg.size,h.pi.kept_ne hg hO,?_⟩;obtain⟨cs,e,g,h0,a6⟩:=h.h0;refine⟨cs,e,g,blk hg (λe=>?_) h0,a6⟩;cases e;rw[hO] at h0;cases h0;obtain⟨k,m,e⟩:=a6 0 _ rfl;cases e
theorem xH.tp{w:qgt}{O Y L:Nat}{yb:Option qi2}{ps:List Par}{yc:Nat}{lim:Int}{pb:Option qi2}{l:List Int}{pc:Nat}(h:xH w O Y L yb ps yc lim pb l pc)(T:Nat->qj1->Nat):xH (w.tp T) O Y L yb ps yc lim pb l pc :=
 ⟨h.out,h.ya,h.pa,h.ne,h.pars,h.yi,h.ints,h.pi,h.h0⟩
theorem Tp.x85:Ya.funcs[85]?=some { qkw with body:=some (.exit 0) }:=by kernel_rfl
section
variable[J:JunkSet]{f:qi8}{Post:qgx->qgt->Prop}{W:qgt}
theorem EC.of_body1(D:Two Ya qh3){fk:qi8}{fn:Func}{c0:qj9}{args:Array qgx}{wq:qgt}{R:qgx->qgt->Prop}{t:Nat}(hf:Ya.funcs[fk]?=some fn)(hp:Tryz.prog.funcs[fk]?=some fn)(a7:fn.body=some c0)(hr:fn.results=#[.tmp t])(h:∀cs,Bot f cs->(∀tm todo u,R (tm.getD t qgz) u->EL Ya qh3 f Post W (G { (qhf fk).at ⟨tm,[]⟩ todo with mode:=.returning } cs) u) ->EL Ya qh3 f Post W (G ((qhf fk).at ⟨args++qhC (fn.ntmps - args.size) qgz,[]⟩ [.code c0]) cs) wq):EC Ya qh3 f Post W fk args wq R :=
 EC.of_body D hf hp a7 λcs hb a6=>h cs hb λtm todo u hR=>a6 ⟨tm,[]⟩ todo u _ rfl (λT=>results_tmp hr _ _ _) hR
structure qc9(ps:List Par)(l wl:List Int):Prop where
 n5:ps.length<=5
 hp:∀p∈ps,0<=p.mn/\p.mn<=p.mx/\p.mx<=1000
 hl:∀y∈l,0<=y/\y<ps.length
 ll:l.length<=1000
 hwl:∀y∈wl,0<=y/\y<ps.length
 wl1:wl.length<=1000
 hN:∀j,j<=wl.length->(yN ps (wl.take j)).length<=900000
theorem el83(D:Two Ya qh3)(hok:JunkSet.okf 137)(e4:∀i,¬ JunkSet.jk i)(hin:Ya.inits.idxOf? f=none)(hfs:∃g,Ya.funcs[f]?=some g/\Tryz.prog.funcs[f]?=some g){wq:qgt}{O Y L:Nat}{yb:Option qi2}{ps:List Par}{yc:Nat}{lim:Int}{pb:Option qi2}{l:List Int}{pc:Nat}(h:xH wq O Y L yb ps yc lim pb l pc){vb:Option qi2}{vc:Nat}{wl:List Int}(hw:qe 0 wq.heap.size wq (.slice vb wl.length vc) wl)(d7:qQ wq (.slice vb wl.length vc))(hne:wl≠[]\/(qhw vb wl.length vc)=.slice none 0 0)(hd:qc9 ps l wl) :EC Ya qh3 f Post W 83 #[.slice vb wl.length vc,.pointer (some ⟨O,0,none⟩),.pointer (some ⟨Y,0,none⟩),.pointer (some ⟨L,0,none⟩)] wq λv u=>∃d:Bool,v=.bool (!d)/\(d=true↔J5 ps l wl)/\(wq.tp u.tape).grownBy u (some O)/\∃b n c,u.heap[O]?=some (.cells #[.slice b n c] 29 (0,0))/\qe 0 u.heap.size u (.slice b n c) wl:=by
 refine EC.of_body1 D (fn:=Tryz.f83) (c0:=Tryz.f83.body.getD .skip) (t:=5) Tp.x83 Tryz.func83 (by kernel_rfl) rfl λcs hb a7=>?_;have HR:=qgr a7;clear a7;simp only[Tryz.f83,qgD];have hs:Ya.funcs[(qhf 83).fn]?=Tryz.prog.funcs[(qhf 83).fn]?:=zh 83 (by decide);walk_nrm;refine EL.sp D hb hs λT=>?_;go_wp2;refine EL.tape (wq:=wq) ?_ T;refine EL.sp D hb hs λT=>?_;obtain⟨ob,on,oc,hO⟩:=h.out;have HO:=qgr hO;have b8:(wq.tp T).frozen? ⟨O,0,none⟩=false:=qq hO;have b9:(wq.tp T).cell? ⟨O,0,none⟩=some (.slice ob on oc):=q9 hO rfl;have hlt:O<(wq.tp T).heap.size:=(qgu.1 hO).1;clear hO;go_wp2;refine(J9 0 wq.heap.size _ wl (wq.tp T) hw (qgw _) hne hd.wl1).mono ?_;rintro e w2 ⟨v',rfl,a6,c9⟩;have e6:=a6.cell b9 (by simp);have b7:=(a6.frozen_far _ hlt (by simp)).trans b8;have a8:=(blk a6 (by simp) HO.out);have d6:=qgr a6;have b0:=qgr c9;have d9:=a6.size;have d5:=qgr a8;clear a6 c9 a8;obtain⟨cb,cc,rfl,-,-⟩:=b0.out.cell;go_wp2;have hg:(wq.tp T).grownBy (w2.setCell ⟨O,0,none⟩ (.slice cb wl.length cc)) (some O):=(d6.out.but (some O)).trans (qh w2 O 0 _);have a9:(w2.setCell ⟨O,0,none⟩ (.slice cb wl.length cc)).heap[O]?=some (.cells #[.slice cb wl.length cc] 29 (0,0)):=by rw[qj d5.out];rfl
 have c8:qe 0 (w2.setCell ⟨O,0,none⟩ (.slice cb wl.length cc)).heap.size (w2.setCell ⟨O,0,none⟩ (.slice cb wl.length cc)) (.slice cb wl.length cc) wl :=
  (b0.out.kept (qh w2 O 0 _) (λR e=>by cases e;exact .inl hlt)).mono (qhz _) (by simp)
 generalize w2.setCell ⟨O,0,none⟩ (.slice cb wl.length cc)=u at hg a9 c8 ⊢;clear e6 b7 b8 b9 d9 d6 b0 d5;have h3:xH u O Y L yb ps yc lim pb l pc:=xH.kept (h.tp T) hg ⟨_,_,_,a9⟩;have d8:qe 0 u.heap.size u (.slice vb wl.length vc) wl:=(qe.kept_ne (w:=wq.tp T) hw hg HO.out).mono (qgw _) hg.size;have b6:qQ u (.slice vb wl.length vc):=qQ.kept_ne (w:=wq.tp T) d7 hg HO.out;show EL _ _ _ _ _ _ _;refine EL.seq D hb hs ?_;refine EL.region D hb hs ?_;simp only[qhk,qh1,qh7,qhj,qhd,qhl,qi0];refine EL.list D hb hs [0,1,2] [_,_,_] (rest:=[3,4,5]) rfl λT3=>?_;have c1:(u.tp T3).cell? ⟨Y,0,none⟩=some (.slice yb ps.length yc):=q9 h3.ya rfl;have c2:(u.tp T3).cell? ⟨Y,1,none⟩=some (.int .i64 lim):=q9 h3.ya rfl;have c3:(u.tp T3).cell? ⟨L,0,none⟩=some (.slice pb l.length pc):=q9 h3.pa rfl;go_wp2;refine EL.tape (wq:=u) ?_ T3;refine EL.doubt D hok e4 hin hfs hb hs (ybq:=yb) (pbq:=pb) (vbq:=vb) (ps:=ps) (l:=l) (wl:=wl) (yc:=yc) (pc:=pc) (vc:=vc) (lim:=lim) rfl rfl (λT4=>by rw[qm7 (f:=85) rfl Tp.x85 (by kernel_rfl) rfl];walk_nrm) h3.pars h3.yi h3.ints h3.pi d8 b6 h3.h0 hd.n5 hd.hp hd.hl hd.ll hd.hwl hd.hN λu2 d e5 hg2=>?_;rw[qjf];walk_nrm;refine EL.list D hb hs [4,5] [_,_] (rest:=[]) rfl λT5=>?_;go_wp2;refine EL.tape (wq:=u2) ?_ T5;refine EL.region_end D hb hs ?_;refine EL.retS D hb hs ?_;refine HR.out _ _ u2 ⟨d,rfl,e5,?_,cb,wl.length,cc,?_,?_⟩
 ·exact⟨hg2.os.trans hg.os,rfl,hg2.output.trans hg.output,qgE hg.size hg2.size,λk hk hne=>(hg2.block k (qh2 hk hg.size) (by simp)).trans (hg.block k hk hne)⟩
 ·exact blk hg2 (by simp) a9
 ·exact(qe.kept (w:=u.tp u2.tape) c8 hg2 (by simp)).mono (qgw _) hg2.size
end
end
section
open Go Go.RowKit Go.Co Go.Sim Go.Conc Go.ConcN
theorem qdG(x:Array qgx)(h:x.size=41):∃y0 y1 y2 y3 y4 y5 y6 y7 y8 y9 y10 y11 y12 y13 y14 y15 y16 y17 y18 y19 y20 y21 y22 y23 y24 y25 y26 y27 y28 y29 y30 y31 y32 y33 y34 y35 y36 y37 y38 y39 y40,x=#[y0,y1,y2,y3,y4,y5,y6,y7,y8,y9,y10,y11,y12,y13,y14,y15,y16,y17,y18,y19,y20,y21,y22,y23,y24,y25,y26,y27,y28,y29,y30,y31,y32,y33,y34,y35,y36,y37,y38,y39,y40]:=by
 have e:=xr x;rw[h] at e;exact⟨_,_,_,_,_,_,_,_,_,_,_,_,_,_,_,_,_,_,_,_,_,_,_,_,_,_,_,_,_,_,_,_,_,_,_,_,_,_,_,_,_,e.trans rfl⟩
structure JJ(w:qgt)(E Lv Gp O Y Lp:Nat)(lb:Option qi2)(lc:Nat)(ws:List Int):Prop where
 en:w.heap[E]?=some (.cells #[.func (.func 83) #[] #[.pointer (some ⟨O,0,none⟩),.pointer (some ⟨Y,0,none⟩),.pointer (some ⟨Lp,0,none⟩)]] 51 (0,0))
 ls:w.heap[Lv]?=some (.cells #[.slice lb ws.length lc] 29 (0,0))
 wsI:qe 0 w.heap.size w (.slice lb ws.length lc) ws
 gr:w.heap[Gp]?=some (.cells #[.func (.func 136) #[] #[.pointer (some ⟨E,0,none⟩),.pointer (some ⟨Lv,0,none⟩),.pointer (some ⟨Gp,0,none⟩)]] 151 (0,0))
 neL:O≠Lv
def jg(p:List Int->Bool):List (List Int)->List Int->Bool × List Int
 | [],o=>(false,o)
 | c::cs,_=>if p c then(true,c) else jg p cs c
theorem KU(p:List Int->Bool):∀(a b:List (List Int)) (o:List Int),jg p (a++b) o=if(jg p a o).1 then jg p a o else jg p b (jg p a o).2:=by
 intro a;induction a with
 | nil=>intro b o;simp[jg]
 | cons c a ih=>
  intro b o;simp only[qha,jg];by_cases h:p c=true
  ·simp[h]
  ·simp only[if_neg h];exact ih b c
theorem q3D(w:qgt)(a6 old:Nat)(e:qh5):a6<=qkF w a6 old e:=by
 unfold qkF;simp only[Question.cut];omega
theorem q8H(z:Array qgx)(hz:zp z.toList)(hp:0<z.size)(n:Nat):zp (qjd z n).toList:=q2d hz hp n
theorem q3l{w:qgt}{l:List Int}{zs:Array qgx}(hz:zp zs.toList)(hl:l.length<=1000000)(cap:Nat) :qe w.heap.size (w.drew.alloc (.cells ((l.map (qhe .i64)).toArray++zs) 3)).heap.size (w.drew.alloc (.cells ((l.map (qhe .i64)).toArray++zs) 3)) (.slice (some ⟨w.heap.size,0,none⟩) l.length cap) l /\qQ (w.drew.alloc (.cells ((l.map (qhe .i64)).toArray++zs) 3)) (.slice (some ⟨w.heap.size,0,none⟩) l.length cap):=by
 have hh:(w.drew.alloc (.cells ((l.map (qhe .i64)).toArray++zs) 3)).heap[w.heap.size]?=some (.cells ((l.map (qhe .i64)).toArray++zs) 3 (0,0)):=qgC w.drew _;refine⟨⟨_,cap,rfl,by omega,λ_=>⟨w.heap.size,0,_,_,rfl,qgw _,?_,hh,λi hi=>?_⟩⟩,λad n c e=>?_⟩
 ·exact(qgu.1 hh).1
 ·rw[qhd,qmm (by simpa using hi)];simp[qgB hi]
 ·cases e;refine⟨_,_,_,hh,λi v hv=>?_⟩;have hm:=qiC hv;rcases qk8.1 hm with h | h
  ·simp only[qka,qkn] at h;obtain⟨x,_,rfl⟩:=h;exact⟨_,_,rfl⟩
  ·exact hz v (by simpa using h)
theorem qab{w:qgt}{nb:Option qi2}{nc B:Nat}{now:List Int}{x:Int}(ty:qh5)(hN:qe 0 w.heap.size w (.slice nb now.length nc) now)(hx:w.cell? ⟨B,0,none⟩=some (.int .i64 x))(hl:now.length<=1000) :∃cap w',(qlf #[29,29] ty #[.slice nb now.length now.length,.slice (some ⟨B,0,none⟩) 1 1]).run Ya w=.ok (.slice (some ⟨w.heap.size,0,none⟩) (now.length+1) cap) w'/\now.length+1<=cap/\w.grownBy w' none /\qe w.heap.size w'.heap.size w' (.slice (some ⟨w.heap.size,0,none⟩) (now.length+1) cap) (now++[x])/\qQ w' (.slice (some ⟨w.heap.size,0,none⟩) (now.length+1) cap):=by
 obtain⟨i0,b8,b7,a8,b6⟩:=qjy Tp.info3p;have a7:∀j v,([qhe .i64 x]:List qgx)[j]?=some v->w.cell? ((⟨B,0,none⟩:qi2).add j)=some v:=λj v hj=>by
  have:j=0:=by have:=(qh0.1 hj).1;simp at this;omega
  subst this;simp at hj;subst hj;simpa[Addr.add] using hx
 have hzi:zp (qhe .i64 0).cells.toList:=λv hv=>by simp[Value.cells] at hv;exact⟨_,_,hv⟩
 have b0:(now++[x]).length=now.length+1:=by simp
 cases nb with
 | none=>
  have h0:now=[]:=by
   refine qin λhne=>?_;obtain⟨base,cap,e,_,hr⟩:=hN;cases e;obtain⟨B,o,cs,fr,e1,_⟩:=hr hne;cases e1
  subst h0;have hr:=run_append_nil (P:=Ya) w 29 ty 3 i0 _ Tp.und29' b8 b7 ⟨B,0,none⟩ 1 1 [qhe .i64 x] (by rw[a8];rfl) a7 (by omega) (by omega) (by rw[b6];omega);have:=q3l (w:=w) (l:=[x]) (zs:=qjd (qhe .i64 0).cells (qkF w 1 0 3 - 1)) (q8H _ hzi (by decide) _) (by simp) (qkF w 1 0 3);exact⟨_,_,hr,q3D _ _ _ _,(qg w none).trans (qgs _ _ none),this.1,this.2⟩
 | some b=>
  have a9:∀j v,(now.map (qhe .i64))[j]?=some v->w.cell? (b.add j)=some v:=λj v hj=>by
   have a6:j<now.length:=by simpa using(qh0.1 hj).1
   obtain⟨base,cap,e,_,hc⟩:=hN.cell;cases e;obtain⟨B',o,e1,_,_,_,h4⟩:=hc (by intro e;rw[e] at a6;simp at a6);cases e1;have h5:=h4 j a6;rw[qis,qgB a6] at hj;rw[qgB a6] at h5;cases hj;exact kH h5
  have hr:=run_append_grow (P:=Ya) w 29 ty 3 i0 _ Tp.und29' b8 b7 b now.length now.length (now.map (qhe .i64)) (by rw[a8];simp) a9 ⟨B,0,none⟩ 1 1 [qhe .i64 x] (by rw[a8];rfl) a7 (by omega) (by omega) (growslice_fits (by omega) (by rw[b6];omega));have:=q3l (w:=w) (l:=now++[x]) (zs:=qjd (qhe .i64 0).cells (qkF w (now.length+1) now.length 3 - (now.length+1))) (q8H _ hzi (by decide) _) (by simp;omega) (qkF w (now.length+1) now.length 3);have e:(now.map (qhe .i64)).toArray++[qhe .i64 x].toArray=((now++[x]).map (qhe .i64)).toArray:=by simp
  rw[e] at hr;rw[b0] at this;exact⟨_,_,hr,q3D _ _ _ _,(qg w none).trans (qgs _ _ none),this.1,this.2⟩
section
variable[J:JunkSet]{f:qi8}{Post:qgx->qgt->Prop}{W:qgt}
noncomputable def sub:List Nat->qj9->qj9
 | 0::l,.seq a _=>sub l a
 | 1::l,.seq _ b=>sub l b
 | 0::l,.cond _ a _=>sub l a
 | 1::l,.cond _ _ b=>sub l b
 | 0::l,.block _ c=>sub l c
 | 0::l,.loop c=>sub l c
 | _,c=>c
theorem q7r{ops:Array qiu}{o:qiu}{a:Act}{w:qgt}{K:Act->qgt->Prop}{Q:Exit->Act->qgt->Prop}{E:Prop}(a6:o.guard=none)(s x:qhF)(hop:o.op=.call { callee:=.builtin .append,args:=#[s,x],argTypes:=#[29,29] }){nb:Option qi2}{nc B:Nat}{now:List Int}{y:Int}(hs:a.eval s=.slice nb now.length now.length)(hx:a.eval x=.slice (some ⟨B,0,none⟩) 1 1)(hN:qe 0 w.heap.size w (.slice nb now.length nc) now)(hy:w.cell? ⟨B,0,none⟩=some (.int .i64 y))(hl:now.length<=1000)(h:∀cap w',now.length+1<=cap->w.grownBy w' none->qe w.heap.size w'.heap.size w' (.slice (some ⟨w.heap.size,0,none⟩) (now.length+1) cap) (now++[y])->qQ w' (.slice (some ⟨w.heap.size,0,none⟩) (now.length+1) cap)->K (a.put o.dst (.slice (some ⟨w.heap.size,0,none⟩) (now.length+1) cap)) w') :if qhD o (qjn ops a.tmps)=true then Oper.wp Ya o a w K Q else E:=by
 rw[if_pos (by simp[qhD,a6])];obtain⟨cap,w',hr,h1,h2,h3,h4⟩:=qab o.type hN hy hl;unfold Oper.wp qk5;simp only[hop,resolve,invoke,builtin,qiw,qnc,qix,List.map_toArray,qjr,qln,hs,hx,hr];exact h cap w' h1 h2 h3 h4
noncomputable def q5i:qj9->Array qiu
 | .region _ ops _=>ops
 | _=>#[]
theorem reg6(D:Two Ya qh3){cs:List qgH}{k:List qkz}(hb:Bot f cs){u:qgt}{E Lv Gp O Y Lp LB lo:Nat}{nb:Option qi2}{lc nc i m:Nat}{ws now:List Int}{x:Int}{y1 y3 y6 y7 y8 y9 y11 y12 y13 y14 y15 y16 y17 y18 y19 y20 y21 y22 y23 y24 y25 y26 y27 y28 y29 y30 y31 y32 y33 y34 y35 y36 y37 y38 y39 y40:qgx}(hG:JJ u E Lv Gp O Y Lp (some ⟨LB,lo,none⟩) lc ws)(hN:qe 0 u.heap.size u (.slice nb now.length nc) now)(hnc:now.length<=nc)(hi:i<ws.length)(hx:u.cell? ⟨LB,lo+i,none⟩=some (.int .i64 x))(hm:m<=1000)(hl:now.length<=1000)(hw:ws.length<=1000)(hend:∀g cap u',now.length+1<=cap->(u.tp u'.tape).grownBy u' none->qe 0 u'.heap.size u' (.slice (some ⟨g,0,none⟩) (now.length+1) cap) (now++[x])->qQ u' (.slice (some ⟨g,0,none⟩) (now.length+1) cap) ->EL Ya qh3 f Post W (G ((qhf 136).at ⟨#[(.slice nb now.length nc),y1,(.int .i64 (m+1:Nat)),y3,(.pointer (some ⟨Lv,0,none⟩)),(.pointer (some ⟨Gp,0,none⟩)),y6,y7,y8,y9,(.int .i64 i),y11,y12,y13,y14,y15,y16,y17,y18,y19,y20,y21,y22,(.func (.func 136) #[] #[.pointer (some ⟨E,0,none⟩),.pointer (some ⟨Lv,0,none⟩),.pointer (some ⟨Gp,0,none⟩)]),(.slice nb now.length nc),(.slice nb now.length nc),(.int .i64 now.length),(.slice nb now.length nc),(.int .i64 now.length),(.slice nb now.length now.length),(.slice (some ⟨LB,lo,none⟩) ws.length lc),(.int .i64 i),(.pointer (some ⟨LB,lo+i,none⟩)),(.int .i64 x),(.slice (some ⟨u.heap.size,0,none⟩) 1 1),(.slice (some ⟨g,0,none⟩) (now.length+1) cap),(.int .i64 i),(.int .i64 (i+1:Nat)),(.int .i64 (m+1:Nat)),(.int .i64 m),y40],[]⟩ (.inRegion (q5i (sub [1,1,0,1,0,0,1,0,0,0] (Tryz.f136.body.getD .skip))) [17]::k)) cs) u') :EL Ya qh3 f Post W (G ((qhf 136).at ⟨#[(.slice nb now.length nc),y1,(.int .i64 (m+1:Nat)),y3,(.pointer (some ⟨Lv,0,none⟩)),(.pointer (some ⟨Gp,0,none⟩)),y6,y7,y8,y9,(.int .i64 i),y11,y12,y13,y14,y15,y16,y17,y18,y19,y20,y21,y22,y23,y24,y25,y26,y27,y28,y29,y30,y31,y32,y33,y34,y35,y36,y37,y38,y39,y40],[]⟩ (.code (sub [1,1,0,1,0,0,1,0,0,0] (Tryz.f136.body.getD .skip))::k)) cs) u:=by
 have hs:Ya.funcs[(qhf 136).fn]?=Tryz.prog.funcs[(qhf 136).fn]?:=zh 136 (by decide);simp only[qnk,qgD,sub,q5i] at hend ⊢;have HE:=qgr hend;clear hend;refine EL.region_chain D hb hs 17 [17] (by kernel_rfl) (by kernel_rfl) (by kernel_rfl) (by kernel_rfl) λT=>?_;generalize he:zA _ 17=ops';simp only[zA,List.take_succ_cons,List.take_zero,qhA,qio,qjr,qln,qha,qhn,jE] at he;subst he;have c0:(u.tp T).cell? ⟨Gp,0,none⟩=some (.func (.func 136) #[] #[.pointer (some ⟨E,0,none⟩),.pointer (some ⟨Lv,0,none⟩),.pointer (some ⟨Gp,0,none⟩)]):=q9 hG.gr rfl;have c1:(u.tp T).cell? ⟨Lv,0,none⟩=some (.slice (some ⟨LB,lo,none⟩) ws.length lc):=q9 hG.ls rfl;have c2:(u.tp T).cell? ⟨LB,lo+i,none⟩=some (.int .i64 x):=hx;have HN:=qgr (show qe 0 (u.tp T).heap.size (u.tp T) (.slice nb now.length nc) now from hN);clear hN hx;have a9:IntKind.i64.wrap ((i:Int)+1)=((i+1:Nat):Int):=by simp[qmu];omega
 have a8:IntKind.i64.wrap (m:Int)=(m:Int):=by simp only[qmu];omega
 change wpAny _ _ _ _ _ _ _ (World.drew (u.tp T));generalize hv:u.tp T=v at c0 c1 c2 HN ⊢;have HV:=qgr hv;clear hv;have a7:=qgr (show ∀w,v.grownBy w none->w.cell? ⟨Gp,0,none⟩=some (.func (.func 136) #[] #[.pointer (some ⟨E,0,none⟩),.pointer (some ⟨Lv,0,none⟩),.pointer (some ⟨Gp,0,none⟩)])/\w.cell? ⟨Lv,0,none⟩=some (.slice (some ⟨LB,lo,none⟩) ws.length lc)/\w.cell? ⟨LB,lo+i,none⟩=some (.int .i64 x) from λw h=>⟨h.cell c0 (by simp),h.cell c1 (by simp),h.cell c2 (by simp)⟩);have g1:v.grownBy v.drew none:=qg v none;have g2:=g1.trans (qgs v.drew (.cells #[.int .i64 x] 3) none);refine qe4 17 (λw=>w.cell? ⟨Gp,0,none⟩=some (.func (.func 136) #[] #[.pointer (some ⟨E,0,none⟩),.pointer (some ⟨Lv,0,none⟩),.pointer (some ⟨Gp,0,none⟩)])/\w.cell? ⟨Lv,0,none⟩=some (.slice (some ⟨LB,lo,none⟩) ws.length lc)/\w.cell? ⟨LB,lo+i,none⟩=some (.int .i64 x)) (by kernel_rfl) (a7.out _ g1) (λa6=>?_);simp only[qh1,qh7,qhj,qir,qhd,qhr,qhs,qi1,qhn,qha];refine tk 0 (h:=tk 1 (h:=tk 2 (h:=tk 3 (h:=tk 4 (h:=tk 5 (h:=tk 6 (h:=tk 7 (h:=tk 8 (h:=tk 9 (h:=tk 10 (h:=tk 13 (h:=tk 14 (h:=tk 15 (h:=tk 16 (h:=?_)))))))))))))));try go_frame
 refine rdy [11] ?_;refine cns 11 (λK hK=>?_) ?_
 ·skip;go_simp;refine hK.out _ _ (a7.out _ g2) (λa6=>?_);clear hK K;try go_frame
  refine rdy [12] ?_;refine cns 12 (λK hK=>?_) ?_
  ·skip;refine q7r rfl (.tmp 29) (.tmp 34) rfl (nc:=nc) rfl rfl ((HN.out.kept g2 (by simp)).mono (qgw _) g2.size) (kE _ _ _ _) hl (λcap w' q1 q2 q3 q4=>?_);refine hK.out _ _ (a7.out _ (g2.trans q2)) (λa6=>?_);clear hK K;try go_frame
   refine⟨by kernel_rfl,?_⟩;simp only[qhA,qio];have G9:=qgr (g2.trans q2);rw[show(v.alloc (.cells #[.int .i64 x] 3)).drew.heap.size=v.heap.size+1 from qgF _ _] at q3 q4;have Q3:=qgr q3;have Q4:=qgr q4;clear q2 q3 q4 a6 g1 g2;go_wp2;obtain rfl:=HV.out;exact HE.out _ cap w' q1 ⟨G9.out.os,rfl,G9.out.output,G9.out.size,G9.out.block⟩ (Q3.out.mono (qhz _) (qgw _)) Q4.out
  exact qp.nil
 exact qp.nil
end
end
section
open Go Go.RowKit Go.Co Go.Sim Go.Conc Go.ConcN
theorem vY{P:qgG}{a:Act}{w:qgt}{o:qiu}{fv:qhF}{f:qi8}{fn:Func}{args:Array qhF}{a6:Array qh5}{jt:Array qgx}(hop:o.op=.call { callee:=.value fv,args,argTypes:=a6 })(hv:a.eval fv=.func (.func f) #[] jt)(hf:P.funcs[f]?=some fn)(hname:(fn.name == "runtime.NumGoroutine")=false)(hb:fn.body.isNone=false):(qk5 a.eval o).run P w=.ok (.enter f (args.map a.eval++jt)) w:=by
 have h1:¬ fn.name = "runtime.NumGoroutine" := by simpa using hname
 have h2:¬ fn.body=none:=by cases hx:fn.body<;>simp_all
 unfold qk5;simp[hop,resolve,Deferred.ofValue,invoke,callFunc,hf,h1,h2,hv]
def Out(w:qgt)(O:Nat)(o:List Int):Prop:=∃b n c,w.heap[O]?=some (.cells #[.slice b n c] 29 (0,0))/\qe 0 w.heap.size w (.slice b n c) o
noncomputable def yV(ps:List Par)(l c:List Int):Bool:=@decide (¬ J5 ps l c) (Classical.propDecidable _)
theorem q2u{ps:List Par}{l c:List Int}{d:Bool}(h:d=true↔J5 ps l c):yV ps l c=!d:=by
 unfold yV;cases d
 ·simpa using λe=>Bool.false_ne_true (h.2 e)
 ·simpa using h.1 rfl
theorem JJ.kept{w w':qgt}{E Lv Gp O Y Lp:Nat}{lb:Option qi2}{lc:Nat}{ws:List Int}(h:JJ w E Lv Gp O Y Lp lb lc ws)(hg:w.grownBy w' (some O)){b:Option qi2}{n c:Nat}(hO:w.heap[O]?=some (.cells #[.slice b n c] 29 (0,0))):JJ w' E Lv Gp O Y Lp lb lc ws :=
 ⟨blk hg (λe=>kA h.en hO (by decide) (by cases e;rfl)) h.en,blk hg (λe=>h.neL (by cases e;rfl)) h.ls,(h.wsI.kept_ne hg hO).mono (qgw _) hg.size,blk hg (λe=>kA h.gr hO (by decide) (by cases e;rfl)) h.gr,h.neL⟩
theorem JJ.tp{w:qgt}{E Lv Gp O Y Lp:Nat}{lb:Option qi2}{lc:Nat}{ws:List Int}(h:JJ w E Lv Gp O Y Lp lb lc ws)(T:Nat->qj1->Nat):JJ (w.tp T) E Lv Gp O Y Lp lb lc ws:=⟨h.en,h.ls,h.wsI,h.gr,h.neL⟩
theorem gb{w u v:qgt}{r:Option Nat}(h:(w.tp u.tape).grownBy u r)(k:(u.tp v.tape).grownBy v r):(w.tp v.tape).grownBy v r :=
 ⟨k.os.trans h.os,rfl,k.output.trans h.output,qgE h.size k.size,λi hi hne=>(k.block i (qh2 hi h.size) hne).trans (h.block i hi hne)⟩
theorem qeG{w u:qgt}(r:Option Nat)(h:(w.tp u.tape).grownBy u none):(w.tp u.tape).grownBy u r:=h.but r
theorem Out.kept{w u:qgt}{O:Nat}{o:List Int}(h:Out w O o)(hg:(w.tp u.tape).grownBy u none):Out u O o:=by
 obtain⟨b,n,c,h1,h2⟩:=h;exact⟨b,n,c,blk hg (by simp) h1,(qe.kept (w:=w.tp u.tape) h2 hg (by simp)).mono (qgw _) hg.size⟩
theorem xH.gr{w u:qgt}{O Y L:Nat}{yb:Option qi2}{ps:List Par}{yc:Nat}{lim:Int}{pb:Option qi2}{l:List Int}{pc:Nat}{o:List Int}(h:xH w O Y L yb ps yc lim pb l pc)(hg:(w.tp u.tape).grownBy u (some O))(ho:Out u O o):xH u O Y L yb ps yc lim pb l pc:=by
 obtain⟨b,n,c,h1,-⟩:=ho;exact(h.tp _).kept hg ⟨b,n,c,h1⟩
theorem JJ.gw{w u:qgt}{E Lv Gp O Y Lp:Nat}{lb:Option qi2}{lc:Nat}{ws o:List Int}(h:JJ w E Lv Gp O Y Lp lb lc ws)(hg:(w.tp u.tape).grownBy u (some O))(ho:Out w O o):JJ u E Lv Gp O Y Lp lb lc ws:=by
 obtain⟨b,n,c,h1,-⟩:=ho;exact(h.tp _).kept hg (b:=b) (n:=n) (c:=c) h1
theorem qe.gr{w u:qgt}{O:Nat}{v:qgx}{l o:List Int}(h:qe 0 w.heap.size w v l)(hg:(w.tp u.tape).grownBy u (some O))(ho:Out w O o):qe 0 u.heap.size u v l:=by
 obtain⟨b,n,c,h1,-⟩:=ho;exact(qe.kept_ne (w:=w.tp u.tape) h hg h1).mono (qgw _) hg.size
def GrR(ps:List Par)(l ws:List Int)(O m:Nat)(now:List Int)(from_:Nat)(o0:List Int)(wq:qgt)(v:qgx)(u:qgt):Prop :=
 ∃b o,jg (yV ps l) (zO ws m now from_) o0=(b,o)/\v=.bool b/\(wq.tp u.tape).grownBy u (some O)/\Out u O o
theorem ZE(w:qgt)(r:Option Nat):(w.tp w.tape).grownBy w r:=⟨rfl,rfl,rfl,qgw _,λ_ _ _=>rfl⟩
section
variable[J:JunkSet]{f:qi8}{Post:qgx->qgt->Prop}{W:qgt}
theorem qg8(D:Two Ya qh3)(hok:JunkSet.okf 137)(g8:∀i,¬ JunkSet.jk i)(hin:Ya.inits.idxOf? f=none)(hfs:∃g,Ya.funcs[f]?=some g/\Tryz.prog.funcs[f]?=some g){ps:List Par}{l ws:List Int}{yb pb lb:Option qi2}{yc pc lc E Lv Gp O Y Lp:Nat}{lim:Int}(g5:ws.length<=1000)(hall:∀c:List Int,(∀y∈c,y∈ws)->c.length<=ws.length->qc9 ps l c) :∀(m:Nat) (now:List Int) (from_:Nat) (nb:Option qi2) (nc:Nat) (wq:qgt) (o0:List Int),m+now.length<=ws.length->(∀y∈now,y∈ws)->JJ wq E Lv Gp O Y Lp lb lc ws->xH wq O Y Lp yb ps yc lim pb l pc->Out wq O o0 ->qe 0 wq.heap.size wq (.slice nb now.length nc) now->qQ wq (.slice nb now.length nc)->now.length<=nc->(now≠[]\/qhw nb now.length nc=.slice none 0 0)->from_<=1000 ->EC Ya qh3 f Post W 136 #[.slice nb now.length nc,.int .i64 from_,.int .i64 m,.pointer (some ⟨E,0,none⟩),.pointer (some ⟨Lv,0,none⟩),.pointer (some ⟨Gp,0,none⟩)] wq (GrR ps l ws O m now from_ o0 wq):=by
 have hs:Ya.funcs[(qhf 136).fn]?=Tryz.prog.funcs[(qhf 136).fn]?:=zh 136 (by decide);intro m;induction m with
 | zero=>
  intro now from_ nb nc wq o0 e5 b8 hG hW hO hN e8 hnc hne g9;refine EC.of_body1 D (fn:=qnk) (c0:=Tryz.f136.body.getD .skip) (t:=9) Tp.x136 Tryz.func136 (by kernel_rfl) rfl λcs hb b6=>?_;have HR:=qgr b6;clear b6;simp only[qnk,qgD];walk_nrm;refine EL.sp D hb hs λT=>?_;go_wp2;refine EL.tape (wq:=wq) ?_ T;refine EL.seq D hb hs ?_;refine EL.sp D hb hs λT=>?_;go_wp2;refine EL.tape (wq:=wq) ?_ T;refine EL.cond D hb hs true (by rfl) ?_;simp only[if_true];refine EL.seq D hb hs ?_;refine EL.region D hb hs ?_;simp only[qhk,qh1,qh7,qhj,qhd,qhl,qi0];have h8:=q9 (o:=0) hG.en rfl;refine EL.list D hb hs [0,1] [_,_] (rest:=[2,3]) rfl λT=>?_;have c1:(wq.tp T).cell? ⟨E,0,none⟩=some (.func (.func 83) #[] #[.pointer (some ⟨O,0,none⟩),.pointer (some ⟨Y,0,none⟩),.pointer (some ⟨Lp,0,none⟩)]):=h8;go_wp2;refine EL.tape (wq:=wq) ?_ T;refine EL.enter D hb hs (fk:=83) (args:=#[.slice nb now.length nc,.pointer (some ⟨O,0,none⟩),.pointer (some ⟨Y,0,none⟩),.pointer (some ⟨Lp,0,none⟩)]) rfl rfl (λT=>by rw[vY (f:=83) rfl rfl Tp.x83 (by kernel_rfl) rfl];walk_nrm) (zh 83 (by decide)) ?_;refine el83 D hok g8 hin hfs hW hN e8 hne (hall now b8 (by omega)) _ cs hb hs λv u hR=>?_;obtain⟨d,rfl,hd,hg,b,n,c,g7,g6⟩:=hR;rw[qjf];walk_nrm;refine EL.list D hb hs [3] [_] (rest:=[]) rfl λT=>?_;go_wp2;refine EL.tape (wq:=u) ?_ T;refine EL.region_end D hb hs ?_;refine EL.retS D hb hs ?_;refine HR.out _ _ u ⟨!d,now,?_,rfl,hg,b,n,c,g7,g6⟩;simp only[zO,jg,q2u hd];cases d<;>rfl
 | succ m ih=>
  intro now from_ nb nc wq o0 e5 b8 hG hW hO hN e8 hnc hne g9;refine EC.of_body1 D (fn:=qnk) (c0:=Tryz.f136.body.getD .skip) (t:=9) Tp.x136 Tryz.func136 (by kernel_rfl) rfl λcs hb b6=>?_;have HR:=qgr b6;clear b6;have r5:((m:Int)+1 == 0)=false:=by
   rw[beq_eq_false_iff_ne];omega
  have key:∀(d:Nat) (i:Nat) (z:Array qgx) (u:qgt) (o:List Int),d=ws.length - i->i<=1001->z.size=41->z[0]?=some (.slice nb now.length nc)->z[2]?=some (.int .i64 (m+1:Nat))->z[3]?=some (.pointer (some ⟨E,0,none⟩))->z[4]?=some (.pointer (some ⟨Lv,0,none⟩))->z[5]?=some (.pointer (some ⟨Gp,0,none⟩))->z[10]?=some (.int .i64 i) ->
    (wq.tp u.tape).grownBy u (some O)->Out u O o->jg (yV ps l) (zO ws (m+1) now from_) o0=jg (yV ps l) (zO ws (m+1) now i) o ->
    EL Ya qh3 f Post W (G ((qhf 136).at ⟨z,[]⟩ (.code (sub [1,1,0,1,0,0] (Tryz.f136.body.getD .skip))::.inLoop (sub [1,1,0,1,0,0] (Tryz.f136.body.getD .skip))::.inBlock 0::.code (sub [1,1,1] (Tryz.f136.body.getD .skip))::[])) cs) u:=by
   intro d;induction d with
   | zero=>
    intro i z u o hd hi hz h0 h2 h3 h4 h5 c8 hg c3 c9;obtain⟨y0,y1,y2,y3,y4,y5,y6,y7,y8,y9,y10,y11,y12,y13,y14,y15,y16,y17,y18,y19,y20,y21,y22,y23,y24,y25,y26,y27,y28,y29,y30,y31,y32,y33,y34,y35,y36,y37,y38,y39,y40,rfl⟩:=qdG z hz;clear hz;simp at h0 h2 h3 h4 h5 c8;subst h0 h2 h3 h4 h5 c8;have e9:=qgr c9;have d8:=q9 (o:=0) (hG.gw hg hO).ls rfl;have hni:¬ (i:Int)<(ws.length:Int):=by omega
    have hge:ws.length<=i:=by omega
    clear hd;simp only[qnk,qgD,sub];refine EL.seq D hb hs ?_;refine EL.sp D hb hs λT=>?_;have c1:(u.tp T).cell? ⟨Lv,0,none⟩=some (.slice lb ws.length lc):=d8;go_wp2;refine EL.tape (wq:=u) ?_ T;refine EL.cond D hb hs false (by rfl) ?_;simp only[if_false,qho];refine EL.exit D hb hs rfl ?_;refine EL.sp D hb hs λT=>?_;go_wp2;refine EL.tape (wq:=u) ?_ T;refine EL.retS D hb hs ?_;refine HR.out _ _ u ⟨false,o,?_,rfl,hg,c3⟩;rw[c9,q0y (by omega)];rfl
   | succ d ihd=>
    intro i z u o hd hi hz h0 h2 h3 h4 h5 c8 hg c3 c9;obtain⟨y0,y1,y2,y3,y4,y5,y6,y7,y8,y9,y10,y11,y12,y13,y14,y15,y16,y17,y18,y19,y20,y21,y22,y23,y24,y25,y26,y27,y28,y29,y30,y31,y32,y33,y34,y35,y36,y37,y38,y39,y40,rfl⟩:=qdG z hz;clear hz;simp at h0 h2 h3 h4 h5 c8;subst h0 h2 h3 h4 h5 c8;have e9:=qgr c9;have d5:=hG.gw hg hO;have d8:=q9 (o:=0) d5.ls rfl;have b7:i<ws.length:=by omega
    have hni:(i:Int)<(ws.length:Int):=by omega
    have HD:=qgr hd;clear hd;have k0:=hN.gr hg hO;have H6:=λk (a1 a3 a6 a7 a8 a9 q0 p9 p8 p7 p6 p5 p4 p3 n9 n8 n7 n6 n4 n3 n2 m9 m8 m7 m6 m5 m4 m3 l9 l8 l7 l6 l5 l4 k9 k8:qgx) LB lo' k6 x hx hend=>reg6 (f:=f) (Post:=Post) (W:=W) (cs:=cs) (k:=k) (y1:=a1) (y3:=a3) (y6:=a6) (y7:=a7) (y8:=a8) (y9:=a9) (y11:=q0) (y12:=p9) (y13:=p8) (y14:=p7) (y15:=p6) (y16:=p5) (y17:=p4) (y18:=p3) (y19:=n9) (y20:=n8) (y21:=n7) (y22:=n6) (y23:=n4) (y24:=n3) (y25:=n2) (y26:=m9) (y27:=m8) (y28:=m7) (y29:=m6) (y30:=m5) (y31:=m4) (y32:=m3) (y33:=l9) (y34:=l8) (y35:=l7) (y36:=l6) (y37:=l5) (y38:=l4) (y39:=k9) (y40:=k8) D hb (u:=u) (E:=E) (Lv:=Lv) (Gp:=Gp) (O:=O) (Y:=Y) (Lp:=Lp) (LB:=LB) (lo:=lo') (nb:=nb) (lc:=lc) (nc:=nc) (i:=i) (m:=m) (ws:=ws) (now:=now) (x:=x) k6 k0 hnc b7 hx (by omega) (by omega) g5 hend;simp only[qnk,qgD,sub,q5i] at H6 ihd ⊢;have r3:=qgr H6;clear H6;have q6:=qgr ihd;clear ihd;refine EL.seq D hb hs ?_;refine EL.sp D hb hs λT=>?_;have c1:(u.tp T).cell? ⟨Lv,0,none⟩=some (.slice lb ws.length lc):=d8;go_wp2;refine EL.tape (wq:=u) ?_ T;refine EL.cond D hb hs true (by rfl) ?_;simp only[if_true];refine EL.skip D hb hs ?_;refine EL.seq D hb hs ?_;refine EL.block D hb hs ?_;refine EL.seq D hb hs ?_;obtain⟨b1,r6,he,-,hcell⟩:=d5.wsI.cell;cases he;obtain⟨LB,lo',rfl,-,-,-,k7⟩:=hcell (by intro e;rw[e] at b7;simp at b7);have hx:=k7 i b7;refine r3.out _ _ _ _ _ _ _ _ _ _ _ _ _ _ _ _ _ _ _ _ _ _ _ _ _ _ _ _ _ _ _ _ _ _ _ _ _ LB lo' d5 _ hx ?_;intro g cap u' q1 q2 q3 q4;generalize e4:ws[i]?.getD 0=x at hx q3 q4;have gU:(u.tp u'.tape).grownBy u' (some O):=qeG _ q2;have e7:=c3.kept q2;have k5:=d5.gw gU c3;have h9:=(hW.gr hg c3).gr gU e7;have d7:∀y∈now++[x],y∈ws:=by
     intro y hy;rcases qiF.1 hy with h | h
     ·exact b8 y h
     ·obtain rfl:=qib.1 h;rw[<- e4,qgB b7];exact qly b7
    have b0:(now++[x]).length=now.length+1:=by simp
    have d9:=ih (now++[x]) (i+1) (some ⟨g,0,none⟩) cap u' o (by rw[b0];omega) d7 k5 h9 e7 (by rw[b0];exact q3) (by rw[b0];exact q4) (by rw[b0];exact q1) (.inl (by simp)) (by omega);rw[b0] at d9;have q7:=qgr d9;clear d9;refine EL.enter D hb hs (fk:=136) (args:=#[.slice (some ⟨g,0,none⟩) (now.length+1) cap,.int .i64 (i+1:Nat),.int .i64 m,.pointer (some ⟨E,0,none⟩),.pointer (some ⟨Lv,0,none⟩),.pointer (some ⟨Gp,0,none⟩)]) rfl rfl (λT=>by rw[vY (f:=136) rfl rfl Tp.x136 (by kernel_rfl) rfl];walk_nrm) (zh 136 (by decide)) ?_;refine q7.out _ cs hb hs λv u2 hR=>?_;obtain⟨b,o2,ht2,rfl,hg2,e6⟩:=hR;rw[qjf];walk_nrm;have b9:(wq.tp u2.tape).grownBy u2 (some O):=gb (gb hg gU) hg2;have d6:jg (yV ps l) (zO ws (m+1) now from_) o0=if b=true then(b,o2) else jg (yV ps l) (zO ws (m+1) now (i+1)) o2:=by
     rw[e9.out,Z3 b7,e4,KU,ht2]
    refine EL.region_end D hb hs ?_;cases b with
    | true=>
     refine EL.cond D hb hs true (by rfl) ?_;simp only[if_true];refine EL.sp D hb hs λT=>?_;go_wp2;refine EL.tape (wq:=u2) ?_ T;refine EL.retS D hb hs ?_;exact HR.out _ _ u2 ⟨true,o2,d6,rfl,b9,e6⟩
    | false=>
     refine EL.cond D hb hs false (by rfl) ?_;simp only[if_false,qho];refine EL.skip D hb hs ?_;refine EL.inBlock D hb hs ?_;have r4:IntKind.i64.wrap ((i:Int)+1)=((i+1:Nat):Int):=by simp[qmu];omega
     refine EL.piece D hb hs λT=>?_;go_wp2;refine EL.tape (wq:=u2) ?_ T;refine EL.inLoop D hb hs ?_;exact q6.out (i+1) _ u2 o2 (by have:=HD.out;omega) (by omega) (by rfl) (by rfl) (by rfl) (by rfl) (by rfl) (by rfl) (by rfl) b9 e6 d6
  simp only[qnk,qgD,sub] at key ⊢;have q5:=qgr key;clear key;walk_nrm;refine EL.sp D hb hs λT=>?_;go_wp2;refine EL.tape (wq:=wq) ?_ T;refine EL.seq D hb hs ?_;refine EL.sp D hb hs λT=>?_;go_wp2;refine EL.tape (wq:=wq) ?_ T;refine EL.cond D hb hs false (by rfl) ?_;simp only[if_false,qho];refine EL.skip D hb hs ?_;refine EL.seq D hb hs ?_;refine EL.sp D hb hs λT=>?_;go_wp2;refine EL.tape (wq:=wq) ?_ T;refine EL.block D hb hs ?_;refine EL.loop D hb hs ?_;exact q5.out (ws.length - from_) from_ _ wq o0 rfl (by omega) (by rfl) (by rfl) (by rfl) (by rfl) (by rfl) (by rfl) (by rfl) (ZE _ _) hO rfl
end
end
section
open Go Go.RowKit Go.Co Go.Sim Go.Conc Go.ConcN
theorem qdH(x:Array qgx)(h:x.size=21):∃y0 y1 y2 y3 y4 y5 y6 y7 y8 y9 y10 y11 y12 y13 y14 y15 y16 y17 y18 y19 y20,x=#[y0,y1,y2,y3,y4,y5,y6,y7,y8,y9,y10,y11,y12,y13,y14,y15,y16,y17,y18,y19,y20]:=by
 have e:=xr x;rw[h] at e;exact⟨_,_,_,_,_,_,_,_,_,_,_,_,_,_,_,_,_,_,_,_,_,e.trans rfl⟩
theorem tpg{w u:qgt}{T:Nat->qj1->Nat}{r:Option Nat}(h:(w.tp T).grownBy u r):(w.tp u.tape).grownBy u r:=⟨h.os,rfl,h.output,h.size,h.block⟩
theorem qb8{w u v:qgt}{O:Nat}(h:(w.tp u.tape).grownBy u none)(k:(u.tp v.tape).grownBy v (some O))(hO:w.heap.size<=O):(w.tp v.tape).grownBy v none :=
 ⟨k.os.trans h.os,rfl,k.output.trans h.output,qgE h.size k.size,λi hi _=>(k.block i (qh2 hi h.size) (by intro e;cases e;exact absurd hi (by show ¬ O<w.heap.size;omega))).trans (h.block i hi (by simp))⟩
theorem xH.knone{w u:qgt}{O Y L:Nat}{yb:Option qi2}{ps:List Par}{yc:Nat}{lim:Int}{pb:Option qi2}{l:List Int}{pc:Nat}(h:xH w O Y L yb ps yc lim pb l pc)(hg:(w.tp u.tape).grownBy u none):xH u O Y L yb ps yc lim pb l pc:=by
 obtain⟨b,n,c,h1⟩:=h.out;exact(h.tp _).kept (hg.but _) ⟨b,n,c,blk hg (by simp) h1⟩
theorem qe.knone{w u:qgt}{v:qgx}{l:List Int}(h:qe 0 w.heap.size w v l)(hg:(w.tp u.tape).grownBy u none):qe 0 u.heap.size u v l:=(qe.kept (w:=w.tp u.tape) h hg (by simp)).mono (qgw _) hg.size
section
variable[J:JunkSet]{f:qi8}{Post:qgx->qgt->Prop}{W:qgt}
theorem el82(D:Two Ya qh3)(hok:JunkSet.okf 137)(l6:∀i,¬ JunkSet.jk i)(hin:Ya.inits.idxOf? f=none)(hfs:∃g,Ya.funcs[f]?=some g/\Tryz.prog.funcs[f]?=some g){ps:List Par}{l ws o0:List Int}{yb pb:Option qi2}{yc pc O Y Lp:Nat}{lim:Int}(l5:ws.length<=1000)(hall:∀c:List Int,(∀y∈c,y∈ws)->c.length<=ws.length->qc9 ps l c)(hS:Qg l ws){wq:qgt}(hW:xH wq O Y Lp yb ps yc lim pb l pc)(hO:Out wq O o0) :EC Ya qh3 f Post W 82 #[.slice pb l.length pc,.func (.func 83) #[] #[.pointer (some ⟨O,0,none⟩),.pointer (some ⟨Y,0,none⟩),.pointer (some ⟨Lp,0,none⟩)]] wq λv u=>∃b o,jg (yV ps l) (yp ws 0) o0=(b,o)/\v=.bool b/\(wq.tp u.tape).grownBy u (some O)/\Out u O o:=by
 have hs:Ya.funcs[(qhf 82).fn]?=Tryz.prog.funcs[(qhf 82).fn]?:=zh 82 (by decide);refine EC.of_body1 D (fn:=qpa) (c0:=Tryz.f82.body.getD .skip) (t:=4) Tp.x82 Tryz.func82 (by kernel_rfl) rfl λcs hb d8=>?_;have HR:=qgr d8;clear d8;have m6:O<wq.heap.size:=by obtain⟨b,n,c,h1⟩:=hW.out;exact(qgu.1 h1).1
 simp only[qpa,qgD];walk_nrm;refine EL.sp D hb hs λT=>?_;go_wp2;obtain⟨Lv,b6⟩:∃Lv,Lv=(wq.tp T).heap.size:=⟨_,rfl⟩;rw[<- b6];have g1:(wq.tp T).grownBy (((wq.tp T).alloc (.cells #[.slice pb l.length pc] 29)).alloc (.cells #[.func (.func 83) #[] #[.pointer (some ⟨O,0,none⟩),.pointer (some ⟨Y,0,none⟩),.pointer (some ⟨Lp,0,none⟩)]] 51)) none:=(qgs _ _ none).trans (qgs _ _ none);have l1:(((wq.tp T).alloc (.cells #[.slice pb l.length pc] 29)).alloc (.cells #[.func (.func 83) #[] #[.pointer (some ⟨O,0,none⟩),.pointer (some ⟨Y,0,none⟩),.pointer (some ⟨Lp,0,none⟩)]] 51)).heap[Lv]?=some (.cells #[.slice pb l.length pc] 29 (0,0)):=by rw[b6];exact qr (qgC (wq.tp T) _)
 have e1:(((wq.tp T).alloc (.cells #[.slice pb l.length pc] 29)).alloc (.cells #[.func (.func 83) #[] #[.pointer (some ⟨O,0,none⟩),.pointer (some ⟨Y,0,none⟩),.pointer (some ⟨Lp,0,none⟩)]] 51)).heap[Lv+1]?=some (.cells #[.func (.func 83) #[] #[.pointer (some ⟨O,0,none⟩),.pointer (some ⟨Y,0,none⟩),.pointer (some ⟨Lp,0,none⟩)]] 51 (0,0)):=by
  have:=qgC ((wq.tp T).alloc (.cells #[.slice pb l.length pc] 29)) (.cells #[.func (.func 83) #[] #[.pointer (some ⟨O,0,none⟩),.pointer (some ⟨Y,0,none⟩),.pointer (some ⟨Lp,0,none⟩)]] 51);rw[qgF] at this;rw[b6];exact this
 generalize ((wq.tp T).alloc (.cells #[.slice pb l.length pc] 29)).alloc (.cells #[.func (.func 83) #[] #[.pointer (some ⟨O,0,none⟩),.pointer (some ⟨Y,0,none⟩),.pointer (some ⟨Lp,0,none⟩)]] 51)=u1 at g1 l1 e1 ⊢;have hg1:=tpg g1;have k0:=hW.ints.knone hg1;clear g1;have g7:=qgr (show Lv=wq.heap.size from b6);show EL _ _ _ _ _ _ _;clear b6;refine EL.sp D hb hs λT=>?_;have c1:(u1.tp T).cell? ⟨Lv,0,none⟩=some (.slice pb l.length pc):=q9 l1 rfl;have g8:=qgr l1;have k9:=qgr e1;have k8:=qgr hg1;have g9:=qgr (show qe 0 (u1.tp T).heap.size (u1.tp T) (.slice pb l.length pc) l from k0);have b7:Lv<(u1.tp T).heap.size:=(qgu.1 l1).1;clear l1 e1 hg1 k0;obtain⟨a7,a8⟩:∃a7,a7=u1.tp T:=⟨_,rfl⟩;rw[<- a8] at g9 c1 b7 ⊢;have HU:=qgr a8;clear a8;have h8:a7.frozen? ⟨Lv,0,none⟩=false:=by rw[HU.out];exact qq g8.out
 go_wp2_with (first
  | (go_at_call 135;refine(QQ _ _ _ _).mono ?_;rintro e w2 ⟨rfl,rfl⟩)
  | (go_at_call 134;refine(hS a7.heap.size (.slice pb l.length pc) _ (by simp) (by rw[kE];rfl) ((g9.out.alloc _).mono (qgw _) (by simp))).mono ?_;rintro e w2 ⟨v,rfl,e8,d9,hg2⟩;obtain⟨lb,lc,rfl,-,-⟩:=e8.cell;have c2:=(((qgs a7 (.cells #[.slice pb l.length pc] 29) none).trans hg2).cell c1 (by simp));have z2:=(((qgs a7 (.cells #[.slice pb l.length pc] 29) none).trans hg2).frozen_far _ b7 (by simp)).trans h8;have k6:=qgr e8;have d6:=qgr ((qgs a7 (.cells #[.slice pb l.length pc] 29) none).trans hg2);have m5:=qgr d9;clear e8 d9 hg2))
 have a6:=qh w2 Lv 0 (.slice lb ws.length lc);have e7:w2.heap[Lv]?=some (.cells #[.slice pb l.length pc] 29 (0,0)):=blk d6.out (by simp) (by rw[HU.out];exact g8.out);have l2:(w2.setCell ⟨Lv,0,none⟩ (.slice lb ws.length lc)).heap[Lv]?=some (.cells #[.slice lb ws.length lc] 29 (0,0)):=by rw[qj e7];rfl
 have l9:=blk (X:=Lv+1) d6.out (by simp) (by rw[HU.out];exact k9.out);have e2:=blk a6 (by simp) l9;have i2:=(k6.out.kept a6 (λR e=>by cases e;left;rw[qgF];omega)).mono (qhz _) a6.size;have g5:(wq.tp (w2.setCell ⟨Lv,0,none⟩ (.slice lb ws.length lc)).tape).grownBy (w2.setCell ⟨Lv,0,none⟩ (.slice lb ws.length lc)) none:=by
  have a:=d6.out;rw[HU.out] at a;exact qb8 k8.out (tpg ((a.but (some Lv)).trans a6)) (by rw[g7.out];exact qgw _)
 show EL _ _ _ _ _ _ _;generalize w2.setCell ⟨Lv,0,none⟩ (.slice lb ws.length lc)=u2 at a6 l2 e2 i2 g5 ⊢;clear e7 k6 d6 m5 c2 z2 a6 h8 HU g9 c1 b7 k8 k9 g8;refine EL.sp D hb hs λT=>?_;go_wp2;obtain⟨Gp,d5⟩:∃Gp,Gp=(u2.tp T).heap.size:=⟨_,rfl⟩;rw[<- d5];have g3:(u2.tp T).grownBy ((u2.tp T).alloc (.cells #[.nilFunc] 151)) none:=qgs _ _ none;have p3:((u2.tp T).alloc (.cells #[.nilFunc] 151)).heap[Gp]?=some (.cells #[.nilFunc] 151 (0,0)):=by rw[d5];exact qgC (u2.tp T) _
 have l3:=blk g3 (by simp) (show(u2.tp T).heap[Lv]?=_ from l2);have e3:=blk g3 (by simp) (show(u2.tp T).heap[Lv+1]?=_ from e2);have e9:=gb g5 (tpg g3);have i3:=i2.knone (tpg g3);have m9:Lv<Gp:=by rw[d5];exact(qgu.1 l2).1
 show EL _ _ _ _ _ _ _;generalize (u2.tp T).alloc (.cells #[.nilFunc] 151)=u3 at g3 p3 l3 e3 e9 i3 ⊢;clear g3 l2 e2 i2 d5 g5;refine EL.sp D hb hs λT=>?_;have c3:(u3.tp T).cell? ⟨Gp,0,none⟩=some .nilFunc:=q9 p3 rfl;have z3:(u3.tp T).frozen? ⟨Gp,0,none⟩=false:=qq p3;have m8:∀(a:qi2) (fn:Fn) (x y:Array qgx) (m:Mode) (w:qgt),(store a (.func fn x y) m).run Ya w=stored Ya w a (.func fn x y) m:=λa fn x y m w=>run_store _ w a _ m rfl;go_wp2;have a6:=qh (u3.tp T) Gp 0 (.func (.func 136) #[] #[.pointer (some ⟨Lv+1,0,none⟩),.pointer (some ⟨Lv,0,none⟩),.pointer (some ⟨Gp,0,none⟩)]);have p4:((u3.tp T).setCell ⟨Gp,0,none⟩ (.func (.func 136) #[] #[.pointer (some ⟨Lv+1,0,none⟩),.pointer (some ⟨Lv,0,none⟩),.pointer (some ⟨Gp,0,none⟩)])).heap[Gp]?=some (.cells #[.func (.func 136) #[] #[.pointer (some ⟨Lv+1,0,none⟩),.pointer (some ⟨Lv,0,none⟩),.pointer (some ⟨Gp,0,none⟩)]] 151 (0,0)):=by
  rw[qj (show(u3.tp T).heap[Gp]?=_ from p3)];rfl
 have l4:=blk a6 (by simp;omega) (show(u3.tp T).heap[Lv]?=_ from l3);have e4:=blk a6 (λe=>kA (show(u3.tp T).heap[Lv+1]?=_ from e3) (show(u3.tp T).heap[Gp]?=_ from p3) (by decide) (by cases e;rfl)) (show(u3.tp T).heap[Lv+1]?=_ from e3);have i4:qe 0 ((u3.tp T).setCell ⟨Gp,0,none⟩ (.func (.func 136) #[] #[.pointer (some ⟨Lv+1,0,none⟩),.pointer (some ⟨Lv,0,none⟩),.pointer (some ⟨Gp,0,none⟩)])).heap.size ((u3.tp T).setCell ⟨Gp,0,none⟩ (.func (.func 136) #[] #[.pointer (some ⟨Lv+1,0,none⟩),.pointer (some ⟨Lv,0,none⟩),.pointer (some ⟨Gp,0,none⟩)])) (.slice lb ws.length lc) ws:=by
  obtain⟨base,cap,e,hl,hr⟩:=i3;refine⟨base,cap,e,hl,λhne=>?_⟩;obtain⟨B,o,cs,fr,e1,e2,e3,e4,e5⟩:=hr hne;exact⟨B,o,cs,fr,e1,e2,qh2 e3 a6.size,blk a6 (λe=>kA (show(u3.tp T).heap[B]?=_ from e4) (show(u3.tp T).heap[Gp]?=_ from p3) (by decide) (by cases e;rfl)) e4,e5⟩
 have c8:=qb8 e9 (tpg a6) (by have:=g7.out;omega);show EL _ _ _ _ _ _ _;generalize (u3.tp T).setCell ⟨Gp,0,none⟩ (.func (.func 136) #[] #[.pointer (some ⟨Lv+1,0,none⟩),.pointer (some ⟨Lv,0,none⟩),.pointer (some ⟨Gp,0,none⟩)])=u4 at a6 p4 l4 e4 i4 c8 ⊢;clear a6 c3 z3 p3 l3 e3 e9 i3;have hG:JJ u4 (Lv+1) Lv Gp O Y Lp lb lc ws:=⟨e4,l4,i4,p4,by have:=g7.out;omega⟩;have l8:=hW.knone c8;have h9:=hO.kept c8;have k7:=qgr c8;clear e4 i4 p4 c8;have key:∀(d:Nat) (k:Nat) (z:Array qgx) (u:qgt) (o:List Int),d=ws.length+1 - k->k<=ws.length+1->z.size=21->z[5]?=some (.pointer (some ⟨Gp,0,none⟩))->z[13]?=some (.int .i64 (ws.length+1:Nat))->z[14]?=some (.int .i64 k) ->
   (u4.tp u.tape).grownBy u (some O)->Out u O o->jg (yV ps l) (yp ws 0) o0=jg (yV ps l) (yp ws k) o ->
   EL Ya qh3 f Post W (G ((qhf 82).at ⟨z,[]⟩ (.code (sub [1,1,1,1,0,1,0,0] (Tryz.f82.body.getD .skip))::.inLoop (sub [1,1,1,1,0,1,0,0] (Tryz.f82.body.getD .skip))::.inBlock 0::.code (sub [1,1,1,1,1] (Tryz.f82.body.getD .skip))::[])) cs) u:=by
  intro d;induction d with
  | zero=>
   intro k z u o hd hk hz h5 b9 b8 hg c9 a9;obtain⟨y0,y1,y2,y3,y4,y5,y6,y7,y8,y9,y10,y11,y12,y13,y14,y15,y16,y17,y18,y19,y20,rfl⟩:=qdH z hz;clear hz;simp at h5 b9 b8;subst h5 b9 b8;have g6:=qgr a9;have hni:¬ (k:Int)<(ws.length:Int)+1:=by omega
   have hge:ws.length+1<=k:=by omega
   clear hd a9;simp only[qpa,qgD,sub];refine EL.sp D hb hs λT=>?_;go_wp2;refine EL.tape (wq:=u) ?_ T;refine EL.seq D hb hs ?_;refine EL.cond D hb hs false (by rfl) ?_;simp only[if_false,qho];refine EL.exit D hb hs rfl ?_;refine EL.sp D hb hs λT=>?_;go_wp2;refine EL.tape (wq:=u) ?_ T;refine EL.retS D hb hs ?_;refine HR.out _ _ u ⟨false,o,?_,rfl,gb (qeG _ k7.out) hg,c9⟩;rw[g6.out,q2w hge];rfl
  | succ d ihd=>
   intro k z u o hd hk hz h5 b9 b8 hg c9 a9;obtain⟨y0,y1,y2,y3,y4,y5,y6,y7,y8,y9,y10,y11,y12,y13,y14,y15,y16,y17,y18,y19,y20,rfl⟩:=qdH z hz;clear hz;simp at h5 b9 b8;subst h5 b9 b8;have g6:=qgr a9;have hni:(k:Int)<(ws.length:Int)+1:=by omega
   have hlt:k<ws.length+1:=by omega
   have HD:=qgr hd;clear hd a9;have k5:=hG.gw hg h9;have l7:=l8.gr hg c9;simp only[qpa,qgD,sub] at ihd ⊢;have m4:=qgr ihd;clear ihd;refine EL.sp D hb hs λT=>?_;go_wp2;refine EL.tape (wq:=u) ?_ T;refine EL.seq D hb hs ?_;refine EL.cond D hb hs true (by rfl) ?_;simp only[if_true];refine EL.skip D hb hs ?_;refine EL.seq D hb hs ?_;refine EL.block D hb hs ?_;refine EL.sp D hb hs λT=>?_;go_wp2;refine EL.tape (wq:=u) ?_ T;refine EL.seq D hb hs ?_;refine EL.region D hb hs ?_;simp only[qhk,qh1,qh7,qhj,qhd,qhl,qi0];refine EL.list D hb hs [0,1] [_,_] (rest:=[2]) rfl λT=>?_;have c1:(u.tp T).cell? ⟨Gp,0,none⟩=some (.func (.func 136) #[] #[.pointer (some ⟨Lv+1,0,none⟩),.pointer (some ⟨Lv,0,none⟩),.pointer (some ⟨Gp,0,none⟩)]):=q9 k5.gr rfl;go_wp2;refine EL.tape (wq:=u) ?_ T;refine EL.enter D hb hs (fk:=136) (args:=#[.slice none ([]:List Int).length 0,.int .i64 (0:Nat),.int .i64 k,.pointer (some ⟨Lv+1,0,none⟩),.pointer (some ⟨Lv,0,none⟩),.pointer (some ⟨Gp,0,none⟩)]) rfl rfl (λT=>by rw[vY (f:=136) rfl rfl Tp.x136 (by kernel_rfl) rfl];walk_nrm;rfl) (zh 136 (by decide)) ?_;refine qg8 D hok l6 hin hfs l5 hall k [] 0 none 0 u o (by simp;omega) (by simp) k5 l7 c9 (qe.nil _ _ _) (λad n c e=>by cases e) (qgw _) (.inr rfl) (by omega) _ cs hb hs λv u2 hR=>?_;obtain⟨b,o2,ht2,rfl,hg2,e6⟩:=hR;rw[qjf];walk_nrm;have b0:(u4.tp u2.tape).grownBy u2 (some O):=gb hg hg2;have d7:jg (yV ps l) (yp ws 0) o0=if b=true then(b,o2) else jg (yV ps l) (yp ws (k+1)) o2:=by
    rw[g6.out,ZR hlt,KU,ht2]
   refine EL.region_end D hb hs ?_;cases b with
   | true=>
    refine EL.cond D hb hs true (by rfl) ?_;simp only[if_true];refine EL.sp D hb hs λT=>?_;go_wp2;refine EL.tape (wq:=u2) ?_ T;refine EL.retS D hb hs ?_;exact HR.out _ _ u2 ⟨true,o2,d7,rfl,gb (qeG _ k7.out) b0,e6⟩
   | false=>
    refine EL.cond D hb hs false (by rfl) ?_;simp only[if_false,qho];refine EL.skip D hb hs ?_;refine EL.inBlock D hb hs ?_;have m7:IntKind.i64.wrap ((k:Int)+1)=((k+1:Nat):Int):=by simp[qmu];omega
    refine EL.piece D hb hs λT=>?_;go_wp2;refine EL.tape (wq:=u2) ?_ T;refine EL.inLoop D hb hs ?_;exact m4.out (k+1) _ u2 o2 (by have:=HD.out;omega) (by omega) (by rfl) (by rfl) (by rfl) (by rfl) b0 e6 d7
 simp only[qpa,qgD,sub] at key;have m3:=qgr key;clear key;have hwl:IntKind.i64.wrap ((ws.length:Int)+1)=((ws.length+1:Nat):Int):=by simp[qmu];omega
 refine EL.seq D hb hs ?_;refine EL.sp D hb hs λT=>?_;have c4:(u4.tp T).cell? ⟨Lv,0,none⟩=some (.slice lb ws.length lc):=q9 l4 rfl;go_wp2;refine EL.tape (wq:=u4) ?_ T;refine EL.block D hb hs ?_;refine EL.loop D hb hs ?_;exact m3.out (ws.length+1) 0 _ u4 o0 rfl (by omega) (by rfl) (by rfl) (by rfl) (by rfl) (ZE _ _) h9 rfl
end
end
section
open Go Go.RowKit Go.Co Go.Sim Go.Conc Go.ConcN
theorem qw.knone{w u:qgt}{v:qgx}{l:List Par}(h:qw 0 w.heap.size w v l)(hg:(w.tp u.tape).grownBy u none):qw 0 u.heap.size u v l:=(qw.kept (w:=w.tp u.tape) h hg (by simp)).mono (qgw _) hg.size
theorem qQ.knone{w u:qgt}{v:qgx}(h:qQ w v)(hg:(w.tp u.tape).grownBy u none):qQ u v:=λad n c e=>by
 obtain⟨cs,e1,f,h1,h2⟩:=h ad n c e;exact⟨cs,e1,f,blk hg (by simp) h1,h2⟩
section
variable[J:JunkSet]{f:qi8}{Post:qgx->qgt->Prop}{W:qgt}
theorem EC.of_body2(D:Two Ya qh3){fk:qi8}{fn:Func}{c0:qj9}{args:Array qgx}{wq:qgt}{R:qgx->qgt->Prop}{t t':Nat}(hf:Ya.funcs[fk]?=some fn)(hp:Tryz.prog.funcs[fk]?=some fn)(a7:fn.body=some c0)(hr:fn.results=#[.tmp t,.tmp t'])(h:∀cs,Bot f cs->(∀tm todo u,R (.tuple #[tm.getD t qgz,tm.getD t' qgz]) u->EL Ya qh3 f Post W (G { (qhf fk).at ⟨tm,[]⟩ todo with mode:=.returning } cs) u) ->EL Ya qh3 f Post W (G ((qhf fk).at ⟨args++qhC (fn.ntmps - args.size) qgz,[]⟩ [.code c0]) cs) wq):EC Ya qh3 f Post W fk args wq R :=
 EC.of_body D hf hp a7 λcs hb a6=>h cs hb λtm todo u hR=>a6 ⟨tm,[]⟩ todo u _ rfl (λT=>results_tmp2 hr _ _ _) hR
theorem el29(D:Two Ya qh3)(hok:JunkSet.okf 137)(c9:∀i,¬ JunkSet.jk i)(hin:Ya.inits.idxOf? f=none)(hfs:∃g,Ya.funcs[f]?=some g/\Tryz.prog.funcs[f]?=some g){ps:List Par}{l ws:List Int}{yb pb:Option qi2}{yc pc:Nat}{lim:Int}(b9:ws.length<=1000)(hall:∀c:List Int,(∀y∈c,y∈ws)->c.length<=ws.length->qc9 ps l c)(hS:Qg l ws)(hY:YOk ps lim)(hP:POk ps lim l){wq:qgt}(pars:qw 0 wq.heap.size wq (.slice yb ps.length yc) ps)(yi:qQ wq (.slice yb ps.length yc))(ints:qe 0 wq.heap.size wq (.slice pb l.length pc) l)(pi:qQ wq (.slice pb l.length pc))(h0:qW wq 0) :EC Ya qh3 f Post W 29 #[.agg #[.slice yb ps.length yc,.int .i64 lim],.slice pb l.length pc] wq λv u=>∃o s,v=.tuple #[s,.int .i64 0]/\(∃b,jg (yV ps l) (yp ws 0) []=(b,o))/\(wq.tp u.tape).grownBy u none/\qe 0 u.heap.size u s o:=by
 have hs:Ya.funcs[(qhf 29).fn]?=Tryz.prog.funcs[(qhf 29).fn]?:=zh 29 (by decide);refine EC.of_body2 D (fn:=Tryz.f29) (c0:=Tryz.f29.body.getD .skip) (t:=4) (t':=5) Tp.x29 Tryz.func29 (by kernel_rfl) rfl λcs hb a8=>?_;have HR:=qgr a8;clear a8;simp only[Tryz.f29,qgD];walk_nrm;refine EL.sp D hb hs λT=>?_;go_wp2;obtain⟨X,hX⟩:∃X,X=(wq.tp T).heap.size:=⟨_,rfl⟩;rw[<- hX];have g1:(wq.tp T).grownBy (((wq.tp T).alloc (.cells #[.slice yb ps.length yc,.int .i64 lim] 24)).alloc (.cells #[.slice pb l.length pc] 29)) none:=(qgs _ _ none).trans (qgs _ _ none);have x1:(((wq.tp T).alloc (.cells #[.slice yb ps.length yc,.int .i64 lim] 24)).alloc (.cells #[.slice pb l.length pc] 29)).heap[X]?=some (.cells #[.slice yb ps.length yc,.int .i64 lim] 24 (0,0)):=by rw[hX];exact qr (qgC (wq.tp T) _)
 have p1:(((wq.tp T).alloc (.cells #[.slice yb ps.length yc,.int .i64 lim] 24)).alloc (.cells #[.slice pb l.length pc] 29)).heap[X+1]?=some (.cells #[.slice pb l.length pc] 29 (0,0)):=by
  have:=qgC ((wq.tp T).alloc (.cells #[.slice yb ps.length yc,.int .i64 lim] 24)) (.cells #[.slice pb l.length pc] 29);rw[qgF] at this;rw[hX];exact this
 show EL _ _ _ _ _ _ _;generalize ((wq.tp T).alloc (.cells #[.slice yb ps.length yc,.int .i64 lim] 24)).alloc (.cells #[.slice pb l.length pc] 29)=u1 at g1 x1 p1 ⊢;have hg1:=tpg g1;clear g1;have HX:=qgr (show X=wq.heap.size from hX);clear hX;refine EL.sp D hb hs λT=>?_;have c1:(u1.tp T).cell? ⟨X,0,none⟩=some (.slice yb ps.length yc):=q9 x1 rfl;have c2:(u1.tp T).cell? ⟨X,1,none⟩=some (.int .i64 lim):=q9 x1 rfl;have c3:(u1.tp T).cell? ⟨X+1,0,none⟩=some (.slice pb l.length pc):=q9 p1 rfl;have b6:=qgr (show qw 0 (u1.tp T).heap.size (u1.tp T) (.slice yb ps.length yc) ps from(show qw 0 u1.heap.size u1 (.slice yb ps.length yc) ps from pars.knone hg1));have b7:=qgr (show qe 0 (u1.tp T).heap.size (u1.tp T) (.slice pb l.length pc) l from(show qe 0 u1.heap.size u1 (.slice pb l.length pc) l from ints.knone hg1));go_wp2_with (first
  | (go_at_call 81;refine(x9 0 _ _ _ ps lim l _ b6.out b7.out (qgw _) hY hP).mono ?_;rintro e w2 ⟨rfl,hg2⟩;have b8:=qgr hg2;clear hg2))
 obtain⟨Y,a9⟩:∃Y,Y=w2.heap.size:=⟨_,rfl⟩;rw[<- a9];have ga:(u1.tp T).grownBy (w2.alloc (.cells #[.slice yb ps.length yc,.int .i64 lim] 91)) none:=b8.out.trans (qgs _ _ none);have b0:=gb hg1 (tpg ga);have y2:(w2.alloc (.cells #[.slice yb ps.length yc,.int .i64 lim] 91)).heap[Y]?=some (.cells #[.slice yb ps.length yc,.int .i64 lim] 91 (0,0)):=by rw[a9];exact qgC _ _
 have p2:=blk ga (by simp) (show(u1.tp T).heap[X+1]?=_ from p1);show EL _ _ _ _ _ _ _;generalize w2.alloc (.cells #[.slice yb ps.length yc,.int .i64 lim] 91)=u2 at ga b0 y2 p2 ⊢;clear ga a9 b8 c1 c2 c3 b6 b7 x1 p1 hg1;refine EL.seq D hb hs ?_;refine EL.sp D hb hs λT=>?_;go_wp2;refine EL.tape (wq:=u2) ?_ T;refine EL.cond D hb hs false (by rfl) ?_;simp only[if_false,qho];refine EL.skip D hb hs ?_;refine EL.sp D hb hs λT=>?_;go_wp2;obtain⟨O,a7⟩:∃O,O=(u2.tp T).heap.size:=⟨_,rfl⟩;rw[<- a7];have ga:(u2.tp T).grownBy ((u2.tp T).alloc (.cells #[.slice none 0 0] 29)) none:=qgs _ _ none;have a6:=gb b0 (tpg ga);have o3:((u2.tp T).alloc (.cells #[.slice none 0 0] 29)).heap[O]?=some (.cells #[.slice none 0 0] 29 (0,0)):=by rw[a7];exact qgC _ _
 have y3:=blk ga (by simp) (show(u2.tp T).heap[Y]?=_ from y2);have p3:=blk ga (by simp) (show(u2.tp T).heap[X+1]?=_ from p2);have hne:O≠X+1:=by
  have h1:=(qgu.1 (show(u2.tp T).heap[X+1]?=_ from p2)).1;omega
 show EL _ _ _ _ _ _ _;generalize (u2.tp T).alloc (.cells #[.slice none 0 0] 29)=u3 at ga a6 y3 p3 o3 ⊢;have e4:=qgr a7;clear ga y2 p2 a7;have d9:Out u3 O []:=⟨none,0,0,o3,qe.nil _ _ _⟩;have d7:xH u3 O Y (X+1) yb ps yc lim pb l pc:=⟨⟨_,_,_,o3⟩,y3,p3,hne,pars.knone a6,yi.knone a6,ints.knone a6,pi.knone a6,by
  obtain⟨cs,e,g,h0,d5⟩:=h0;exact⟨cs,e,g,blk a6 (by simp) h0,d5⟩⟩
 refine EL.seq D hb hs ?_;refine EL.region D hb hs ?_;simp only[qhk,qh1,qh7,qhj,qhd,qhl,qi0];refine EL.list D hb hs [0,1] [_,_] (rest:=[2]) rfl λT=>?_;have c1:(u3.tp T).cell? ⟨X+1,0,none⟩=some (.slice pb l.length pc):=q9 p3 rfl;go_wp2;refine EL.tape (wq:=u3) ?_ T;refine EL.enter D hb hs (fk:=82) (args:=#[.slice pb l.length pc,.func (.func 83) #[] #[.pointer (some ⟨O,0,none⟩),.pointer (some ⟨Y,0,none⟩),.pointer (some ⟨X+1,0,none⟩)]]) rfl rfl (λT=>by rw[qm7 (f:=82) rfl Tp.x82 (by kernel_rfl) rfl];walk_nrm) (zh 82 (by decide)) ?_;refine el82 D hok c9 hin hfs b9 hall hS d7 d9 _ cs hb hs λv u hR=>?_;obtain⟨b,o,c8,rfl,d6,d8⟩:=hR;rw[qjf];walk_nrm;refine EL.region_end D hb hs ?_;refine EL.sp D hb hs λT=>?_;obtain⟨ob,on,oc,o4,i4⟩:=d8;have c1:(u.tp T).cell? ⟨O,0,none⟩=some (.slice ob on oc):=q9 o4 rfl;go_wp2;refine EL.tape (wq:=u) ?_ T;refine EL.retS D hb hs ?_;exact HR.out _ _ u ⟨o,_,rfl,⟨b,c8⟩,qb8 a6 d6 (by have h1:=b0.size;have h2:(wq.tp u2.tape).heap.size=wq.heap.size:=rfl;have h3:=e4.out;rw[h3];exact h1),i4⟩
end
end
section
open Go.RowKit
theorem q8l(pv:qgx)(ps:List Par)(lim:Int)(w:qgt)(hP:qw 0 w.heap.size w pv ps)(hok:YOk ps lim)(D5:∀x:List Int,x.Nodup->(∀y∈x,0<=y/\y<ps.length)->POk ps lim x)(C9:∀p∈ps,p.tall<=lim)(hN:((yp (zo ps.length) 0).flatMap kX).length<=1000)(SL:List (List Int))(F1:SL=vC ps (yp (zo ps.length) 0))(F5:SL.length<=12)(N5:SL≠[])(E8:∀s∈zI SL.length SL,s≠[]/\∀x∈s,0<=x/\x<5)(f:Nat)(r6:f<=100)(R:List (List Int))(hf:qbb f (zI SL.length SL) (zy (zo ps.length)) [([],0)]=some (some R)) :qhx Ya 63 #[.agg #[pv,.int .i64 lim]] w λe w'=>∃v,e=.returned (.tuple #[v,.int .i64 0])/\w.grownBy w' none/\RowsIn 0 w'.heap.size w' v R:=by
 obtain⟨i0,E5,C8,C7,C6⟩:=qjy Tp.info133p;obtain⟨yb,yc,rfl,R4,-⟩:=hP.cell;have HP:=qgr hP;have t2:=qgr hok;have H8:=qgr D5;have H0:=qgr C9;have HN:=qgr hN;have v6:=qgr F1;have HF:=qgr hf;have v4:=qgr E8;clear hP hok D5 C9 hN F1 hf E8;go_enter Tp.x63,Tryz.ntmps63;go_wp2;refine wp_scope_straight ?_;go_upto_region 4 with(first
  | (go_at_call 81;go_must (refine(x9 0 w.heap.size _ _ ps lim [] _ (HP.out.kept (qgs _ _ none) (by simp)) (qe.nil _ _ _) (by simp) t2.out (POk.nil ps t2.out.l1)).mono ?_);rintro e w2 ⟨rfl,G3⟩;have d8:=qgr ((qgs w (.cells #[.slice yb ps.length yc,.int .i64 lim] 24) none).trans G3);clear G3))
 obtain⟨Y,A4⟩:∃Y,Y=w2.heap.size:=⟨_,rfl⟩;obtain⟨w3,u0⟩:∃w3,w3=w2.alloc (.cells #[.slice yb ps.length yc,.int .i64 lim] 91):=⟨_,rfl⟩;rw[<- A4,<- u0];have r9:w3.heap[Y]?=some (.cells #[.slice yb ps.length yc,.int .i64 lim] 91 (0,0)):=by rw[u0,A4];exact qgC _ _
 have v3:w.grownBy w3 none:=d8.out.trans (by rw[u0];exact qgs _ _ none);have B5:=qgr r9;have t7:=qgr v3;have q0:=q9 r9 (o:=0) rfl;have q1:=q9 r9 (o:=1) rfl;have K2:=qgr ((HP.out.kept v3 (by simp)).mono (qgw _) v3.size);clear A4 u0 r9 v3;go_wp2;go_loopw [29] (λiv wr=>∃k:Nat,iv=.int .i64 k/\k<=ps.length/\w3.grownBy wr none) (λiv _=>(ps.length - qia iv).toNat)
 case atStart=>exact⟨0,rfl,by omega,qh6 _ _⟩
 case round=>
  obtain⟨k,rfl,hk,hG⟩:=hrel;have HG:=qgr hG;have C0:=K2.out.kept hG (by simp);have M2:=hG.cell q0 (by simp);have M1:=hG.cell q1 (by simp);have N4:Y<wr.heap.size:=by have:=qA B5.out;have:=hG.size;omega
  clear hG;by_cases hlt:k<ps.length
  ·obtain⟨b2,c2,he,-,hc⟩:=C0.cell;cases he;obtain⟨YB,yo,rfl,S4,S3,r9,m4⟩:=hc (by intro e;rw[e] at hlt;simp at hlt);obtain⟨p,hp,p0,p1,p2,p3⟩:=m4 k (by omega);have R9:=H0.out p (qhc hp);have E3:(k:Int)<(ps.length:Int):=by omega
   clear hc m4 hp C0;go_wp2;go_roundw
   case rel=>exact⟨k+1,by simp,by omega,HG.out.trans (qgs _ _ _)⟩
   case measure=>simp[qia];omega
  ·obtain rfl:k=ps.length:=by omega
   clear C0;go_upto_region 11 with(fail);obtain⟨Sg,A7⟩:∃Sg,Sg=wr.heap.size:=⟨_,rfl⟩;obtain⟨w4,t9⟩:∃w4,w4=wr.alloc (.cells #[.slice none 0 0] 36):=⟨_,rfl⟩;rw[<- A7,<- t9];have G7:w4.heap[Sg]?=some (.cells #[.slice none 0 0] 36 (0,0)):=by rw[t9,A7];exact qgC _ _
   have s5:w3.grownBy w4 none:=HG.out.trans (by rw[t9];exact qgs _ _ none);have m4:=blk s5 (by simp) B5.out;have R7:w.heap.size<=Sg:=by have:=t7.out.size;have:=HG.out.size;omega
   have C4:=qgr G7;have s6:=qgr m4;have k7:=qgr (t7.out.trans s5);have K1:=qgr ((HP.out.kept (t7.out.trans s5) (by simp)).mono (qgw _) (t7.out.trans s5).size);have c0:=q9 m4 (o:=0) rfl;have c1:=q9 m4 (o:=1) rfl;clear A7 t9 G7 s5 m4 B5 q0 q1 M2 M1 N4;have hn:ps.length<=1000:=by have:=t2.out.len;omega
   go_upto_region 12 with(first
    | (go_at_call 100;refine(xY yb ps.length yc lim w4 hn).mono ?_;rintro e w5 ⟨v5,rfl,G2,B4⟩;obtain⟨b5,k5,e5,-,-⟩:=B4.cell;rw[zk] at e5;subst e5;have c3:=qgr G2;have L4:=qgr B4;clear G2 B4)
    | (go_at_call 82;refine(qdc (blk c3.out (by simp) s6.out) ((K1.out.kept c3.out (by simp)).mono (qgw _) c3.out.size) (blk c3.out (by simp) C4.out) t2.out H8.out HN.out (L4.out.mono (qhz _) (qgw _))).mono ?_;rintro e w6 ⟨rfl,G6,G4⟩;have k8:=qgr G4;clear G4))
   obtain⟨SB,sc,k6,F3,n6⟩:=k8.out.rows (by rw[<- v6.out];exact N5) (by rw[<- v6.out];omega);rw[<- v6.out] at k6 n6;have d7:w.grownBy w6 none:=⟨k8.out.os.trans (k7.out.trans c3.out).os,k8.out.tape.trans (k7.out.trans c3.out).tape,k8.out.output.trans (k7.out.trans c3.out).output,qgE (k7.out.trans c3.out).size k8.out.size,λk hk _=>(k8.out.keep k (qh2 hk (k7.out.trans c3.out).size) (by omega)).trans ((k7.out.trans c3.out).block k hk (by simp))⟩;have A6:w6.heap[Y]?=_:=(k8.out.keep Y (qA (blk c3.out (by simp) s6.out)) (λe=>by have h:=s6.out;rw[e,C4.out] at h;injection h with h;injection h with _ h _;exact absurd h (by decide))).trans (blk c3.out (by simp) s6.out);have M7:=n6;obtain⟨S5,p5,-⟩:=M7;have F2:SB<w6.heap.size:=qA p5;have L8:=qgr d7;have G9:=qgr A6;have H3:=qgr k6;have H6:=qgr n6;have M3:w.heap.size<=SB:=by have:=(k7.out.trans c3.out).size;omega
   have E9:SB≠Sg:=λe=>by rw[e,k6] at p5;injection p5 with h;injection h with _ h _;exact absurd h (by decide)
   have A8:SB≠Y:=λe=>by rw[e,A6] at p5;injection p5 with h;injection h with _ h _;exact absurd h (by decide)
   have L2:=qgr (show w5.heap.size<=SB from F3);have c6:=q9 k6 (o:=0) rfl;clear d7 A6 k6 n6 F3 c0 c1 k8 p5;go_upto_region 13 with(first
    | (go_at_call 121;refine(qa2 _ _ SB 0 sc SL w6 H6.out (qgw _) F5).mono ?_;rintro e w7 ⟨rfl,G1,F7⟩;have g7:=qgr G1;have H4:=qgr F7;clear G1 F7))
   have v0:=blk g7.out (by simpa using λe=>A8 e.symm) G9.out;have F4:=blk g7.out (by simpa using λe=>E9 e.symm) H3.out;have S7:=qgr v0;have H2:=qgr F4;have g5:w.grownBy w7 none:=xE L8.out g7.out M3;have L6:=qgr g5;have d0:=q9 v0 (o:=0) rfl;have d1:=q9 v0 (o:=1) rfl;clear v0 F4 c6 g5;have h5:∀x∈zo ps.length,0<=x/\x<5:=λx hx=>by have:=q3j hx;have:=t2.out.len;omega
   have H5:=qgr h5;clear h5;go_upto_region 14 with(first
    | (go_at_call 100;refine(xY yb ps.length yc lim w7 hn).mono ?_;rintro e w9 ⟨v9,rfl,F9,B3⟩;obtain⟨b9,k9,e9,-,-⟩:=B3.cell;rw[zk] at e9;subst e9;have v8:=qgr F9;have L3:=qgr B3;clear F9 B3)
    | (go_at_call 123;refine(q0e _ _ _ _ w9 L3.out H5.out).mono ?_;rintro e R1 ⟨rfl,rfl⟩))
   obtain⟨S,hS⟩:∃S,S=zI SL.length SL:=⟨_,rfl⟩;have m5:S.length=SL.length:=by rw[hS,Jq]
   rw[<- hS] at HF v4;obtain⟨al,E7⟩:∃al,al=zy (zo ps.length):=⟨_,rfl⟩;rw[<- E7] at HF ⊢;have F6:RowsIn 0 w9.heap.size w9 (.slice (some ⟨SB,0,none⟩) S.length sc) S:=by
    have h1:zm w5.heap.size w6.heap.size SB 0 w7 S:=by rw[hS];exact H4.out
    have h2:=h1.rows F2 L2.out (by omega) sc;exact(h2.kept v8.out (by simp)).mono (qhz _) (qgE g7.out.size v8.out.size)
   rw[<- m5] at H2;have E6:w.grownBy w9 none:=L6.out.trans v8.out;have z5:=blk v8.out (by simp) H2.out;have c9:=q9 z5 (o:=0) rfl;have Q7:=qA z5;have N8:=qgr F6;have P4:=qgr E6;have N7:=qgr m5;have s1:S.length<=12:=by omega
   clear hS E7 F6 E6 z5 m5 v6 H0 HN H8 HP K2 K1 C4 s6 G9 H3 H6 H4 L4 L3 d8 t7 k7 c3 L8 g7 L6 HG d0 d1 L2 H5;go_upto_region 15 with(fail);have G5:q6g S al R (.slice (some ⟨w9.heap.size,0,none⟩) 1 1) (w9.alloc (.cells #[.slice none 0 0,.int .u8 0] 133)) f:=by
    refine⟨[([],0)],⟨_,1,rfl,λ_=>⟨w9.heap.size,0,_,_,rfl,by simp,qgC _ _,λi hi=>?_⟩⟩,⟨by simp,λp hp=>?_⟩,λp hp=>?_,HF.out⟩
    ·obtain rfl:i=0:=by simp at hi;omega
     exact⟨([],0),_,_,rfl,rfl,rfl,⟨none,0,rfl,by simp,λh=>absurd rfl h⟩,rfl,λa n c e=>by cases e;omega⟩
    ·obtain rfl:p=([],0):=by simpa using hp
     simp
    ·obtain rfl:p=([],0):=by simpa using hp
     simpa using r6
   have P5:=qgr G5;clear G5;refine wp_label ?_;go_wp2;go_loopw [10] (λnv wr=>(∃m,m<=100/\q6g S al R nv wr m)/\w9.grownBy wr none) (λnv wr=>q6r S al R nv wr)
   case atStart=>exact⟨⟨f,r6,P5.out⟩,qgs _ _ none⟩
   case round=>
    obtain⟨wo,rfl⟩:∃x,x=wr:=⟨wr,rfl⟩;obtain⟨⟨m,hm,hP⟩,hg⟩:=hrel;have hQ:=q5j hm hP;have N0:=q34 hm hP;obtain⟨m0,z9⟩:∃m0,m0=q6r S al R u10 wo:=⟨_,rfl⟩;rw[<- z9] at hQ N0;obtain⟨recs,p4,q4,D1,n4⟩:=hQ;have D3:=p4;obtain⟨nb,nc,rfl,-⟩:=D3;cases m0 with
    | zero=>cases n4
    | succ n=>
     simp only[qbb] at n4;have P3:=qgr z9;have HG:=qgr hg;have N9:=qgr p4;have s8:=qgr q4;have B7:=qgr D1;have x8:=qgr n4;have M6:=q4.1;have M9:n<100:=by omega
     clear hm hP hg z9 p4 q4 D1 n4;go_wp2;go_loopw [11,53] (λnx iv wq=>∃k:Nat,iv=.int .i64 k/\k<=recs.length/\(∀p∈recs.take k,p.2≠al)/\wo.grownBy wq none/\jG wo.heap.size wq nx (ju S (recs.take k))) (λ_ iv _=>(recs.length - qia iv).toNat)
     case atStart=>exact⟨0,rfl,by omega,by simp,qh6 _ _,jG.nil _ _⟩
     case round=>
      obtain⟨k,rfl,hk,E0,A3,l7⟩:=hrel;have t6:=qgr A3;have e4:=A3;have C2:=qgr E0;have v7:=qgr l7;clear A3 E0 l7;by_cases hlt:k<recs.length
      ·obtain⟨RB,ro,p,pa,pn,pc,rfl,D7,D6,r1,r2,r3,r4⟩:=N9.out.at hlt;have N3:=e4.cell r1 (by simp);have N1:=e4.cell r2 (by simp);have E3:(k:Int)<(recs.length:Int):=by omega
       obtain⟨a7,a8⟩:=p;dsimp only at r1 r2 r3 r4 D6;subst D6;have G8:=(HG.out.trans e4).cell c9 (by simp);have Q5:Sg<wr.heap.size:=by have:=(HG.out.trans e4).size;omega
       go_upto_region 19 with(fail);obtain⟨Pb,v2⟩:∃Pb,Pb=wr.heap.size:=⟨_,rfl⟩;obtain⟨w1,u5⟩:∃w1,w1=wr.alloc (.cells #[.slice pa a7.length pc,.int .u8 (a8:Nat)] 133):=⟨_,rfl⟩;rw[<- v2,<- u5];have h9:wr.grownBy w1 none:=by rw[u5];exact qgs _ _ none
       have m8:w1.heap[Pb]?=some (.cells #[.slice pa a7.length pc,.int .u8 (a8:Nat)] 133 (0,0)):=by rw[u5,v2];exact qgC _ _
       have b0:=q9 m8 (o:=0) rfl;have b1:=q9 m8 (o:=1) rfl;have N6:=h9.cell G8 (by simp);have H7:=qgr r3;have P0:=qgr ((r3.kept (e4.trans h9) (by simp)).mono (qgw _) (e4.trans h9).size);have H9:=qgr m8;have n8:=qgr h9;have t1:=qgr v2;have p6:=qgr D7;clear m8 u5 h9 v2 r1 r2 r3 N3 N1 D7 G8 e4;by_cases z7:a8=al
       ·subst z7;go_wp2;rw[Exit.noGoto_ret];go_ret2;have c8:=x8.out;rw[q75 (λp:Rec=>p.2 == a8) recs k _ p6.out (by simp) (λi y hi hy=>by
         have:=C2.out y (qhc (by rw[qjc hi];exact hy));simpa using this)] at c8
        simp only[qht] at c8;exact⟨_,rfl,P4.out.trans (HG.out.trans (t6.out.trans n8.out)),by rw[<- c8];exact P0.out⟩
       ·have P9:((a8:Int) == (al:Int))=false:=by rw[beq_eq_false_iff_ne];omega
        have P1:=qgr z7;clear z7;obtain⟨wp,hwp⟩:∃x,x=wr:=⟨wr,rfl⟩;have x6:wo.grownBy w1 none:=t6.out.trans n8.out;have P7:wo.heap.size<=Pb:=by have:=t6.out.size;have:=t1.out;omega
        have E2:∀g,u11.ownBlock=some g->g≠Pb:=λg e=>by
         obtain⟨C,h1,-,-⟩:=v7.out;have:=(h1.lt g e).2;have:=t1.out;omega
        have L1:=qgr (v7.out.kept n8.out);have L5:=qgr x6;have P2:=qgr E2;clear hwp x6 E2 v7 n8 t6 t1;go_wp2;clear b0 b1 N6;go_loopw [11,65] (λnx iv wq=>∃j:Nat,iv=.int .i64 j/\j<=S.length/\wo.grownBy wq none/\wq.heap[Pb]?=some (.cells #[.slice pa a7.length pc,.int .u8 (a8:Nat)] 133 (0,0))/\(∀g,nx.ownBlock=some g->g≠Pb)/\jG wo.heap.size wq nx (ju S (recs.take k)++((S.take j).filter (okF (a7,a8))).map (Qz (a7,a8)))) (λ_ iv _=>(S.length - qia iv).toNat)
        case atStart=>exact⟨0,rfl,by omega,L5.out,H9.out,P2.out,by simpa using L1.out⟩
        case round=>
         obtain⟨j,rfl,hj,l8,g9,x5,x4⟩:=hrel;have S2:=q9 (o:=0) g9 rfl;have Q4:=q9 (o:=1) g9 rfl;have g6:=qgr l8;have e7:=qgr g9;have e8:=qgr x5;have n7:=qgr x4;have P6:=l8.size;have R0:=qA g9;clear g9 x5 x4;by_cases A0:j<S.length
         ·obtain⟨R3,R2,eS,-,v1⟩:=(N8.out.kept (HG.out.trans l8) (by simp)).cell;cases eS;obtain⟨S6,so,eS,-,-,-,v1⟩:=v1 (by intro e;rw[e] at A0;simp at A0);cases eS;obtain⟨s,x,z4,M4,u6⟩:=v1 j A0;rw[qhd] at M4;obtain⟨xb,xc,rfl,-,x1⟩:=u6.cell;obtain⟨x0,D0⟩:=v4.out s (qhc z4);obtain⟨XB,xo,rfl,-,-,-,l4⟩:=x1 x0;have z3:0<s.length:=qkf.2 x0;have l4:=l4 0 z3;have Q3:(j:Int)<(S.length:Int):=by omega
          have L9:(0:Int)<(s.length:Int):=by omega
          have p9:=λC (h:World.grownBy _ C none)=>q0e _ _ _ s C (u6.kept h (by simp)) D0;have z8:=Qs s 5 λy hy=>by have:=D0 y hy;omega
          have m9:okF (a7,a8) s=(!(decide (0<a7.length) && decide (Js s<=Js (q70 a7))) && decide (a8 &&& zy s=0)):=rfl;have q6:=(s8.out.2 _ (qhc p6.out)).2.1;have d6:=q8A ⟨a8,q6⟩ ⟨zy s,z8⟩;have hor:=qbA ⟨a8,q6⟩ ⟨zy s,z8⟩;have r7:Qz (a7,a8) s=(a7++[s],a8 ||| zy s):=rfl;simp only at d6 hor q6;rw[show s[0]?.getD 0=Js s from rfl] at l4;generalize zy s=ms at p9 z8 m9 d6 hor r7;generalize Js s=hs at l4 m9;have x7:(S.take (j+1)).filter (okF (a7,a8))=(S.take j).filter (okF (a7,a8))++(if okF (a7,a8) s=true then[s] else[]):=by
           rw[qi7,z4,qm0];simp[List.filter_cons]
          have t8:=qgr x7;have e6:=qgr p9;have b6:=qgr m9;have n9:=qgr d6;have L0:=qgr hor;have z0:=qgr r7;have H1:=qgr u6;have s9:=qgr ((H7.out.kept l8 (by simp)).mono (qgw _) l8.size);clear x7 p9 m9 d6 hor r7 u6 v1 z4 l8 x1;have r8:okF (a7,a8) s=false->∀C,wr.grownBy C none->jG wo.heap.size C u11 (ju S (recs.take k)++((S.take (j+1)).filter (okF (a7,a8))).map (Qz (a7,a8))):=λe C h=>by
           rw[t8.out,e];simpa using n7.out.kept h
          have m7:=qgr r8;clear r8;have w8:w9.heap.size<=wr.heap.size:=(HG.out.trans g6.out).size;have x3:=B7.out _ (qhc p6.out);dsimp only at x3;have P8:a7.length<=100:=by omega
          clear x3;by_cases u7:0<a7.length
          ·have M8:(0:Int)<(a7.length:Int):=by omega
           rw[show decide (0<a7.length)=true by simpa using u7] at b6;simp only[qm9] at b6;obtain⟨lb,lc,el,-,u9⟩:=s9.out.cell;cases el;obtain⟨LB,lo,rfl,-,-,-,u9⟩:=u9 (by intro e;rw[e] at u7;simp at u7);obtain⟨r,x,p4,R8,D2⟩:=u9 (a7.length - 1) (by omega);have q7:q70 a7=r:=by unfold q70;rw[p4];rfl
           have D4:=(s8.out.2 _ (qhc p6.out)).1 r (qhc p4);obtain⟨x2,-⟩:=v4.out r D4;obtain⟨rb,rc,rfl,-,l5⟩:=D2.cell;obtain⟨QB,qo,rfl,-,-,-,l5⟩:=l5 x2;have z6:0<r.length:=qkf.2 x2;have l5:=l5 0 z6;rw[Nat.add_zero] at l5;have l4:=l4;rw[Nat.add_zero] at l4;rw[q7] at b6;rw[show r[0]?.getD 0=Js r from rfl] at l5;have M0:(0:Int)<(r.length:Int):=by omega
           have R6:IntKind.i64.wrap ((a7.length:Int) - 1)=(a7.length:Int) - 1:=qhm _ (by omega);have hnt:((a7.length:Int) - 1).toNat=a7.length - 1:=by omega
           have Q2:(0:Int)<=(a7.length:Int) - 1:=by omega
           have Q1:(a7.length:Int) - 1<(a7.length:Int):=by omega
           generalize Js r=hr at l5 b6;clear u9 q7 D4 D2;by_cases hle:hs<=hr
           ·have hok:okF (a7,a8) s=false:=by rw[b6.out];simp[hle]
            have b8:=qgr hok;clear hok;go_upto_region 25 with(fail);go_quiet (first | (go_at_call 123;refine qiG ((e6.out _ (qk _ _ none)).mono (λe w5 h=>⟨h.1,h.2.symm⟩))));go_wp2;exact⟨⟨j+1,by simp,by omega,g6.out.trans (qk _ _ none),e7.out,e8.out,m7.out b8.out _ (qk _ _ none)⟩,by simp[qia];omega⟩
           ·rw[show decide (hs<=hr)=false by simpa using hle] at b6;simp only[qmh,qm9] at b6;by_cases hz:a8 &&& ms=0
            ·have z1:(((a8 &&& ms:Nat):Int) != 0)=false:=by rw[hz];rfl
             have hok:okF (a7,a8) s=true:=by rw[b6.out];simpa using hz
             have b8:=qgr hok;have d6:=n9.out;clear hz hok;go_upto_region 25 with(fail);go_quiet (first | (go_at_call 123;refine qiG ((e6.out _ (qk _ _ none)).mono (λe w5 h=>⟨h.1,h.2.symm⟩))));go_upto_region 26 with(fail);have m3:=qk wr nq none;have z2:wr.heap.size=(wr.drewN nq).heap.size:=rfl;generalize wr.drewN nq=wa at m3 z2 ⊢;have l9:wr.grownBy wa.drew none:=m3.trans (qg wa none);have l6:=blk l9 (by simp) e7.out;have s0:wa.drew.cell? ⟨Pb,0,none⟩=some (.slice (some ⟨LB,lo,none⟩) a7.length pc)/\wa.drew.cell? ⟨Pb,1,none⟩=some (.int .u8 (a8:Nat)):=⟨q9 l6 rfl,q9 l6 rfl⟩;have p8:=s0.1;have p7:=s0.2;obtain⟨C,n1,n2,n3⟩:=n7.out;obtain⟨oa,om,oc,eo⟩:=zK n1;subst eo;have C3:=qgr l9;have d5:=qgr n1;have t5:=qgr n2;have t4:=qgr n3;have hor:=L0.out;have D8:(a7.length:Int)<=(pc:Int):=by omega
             have E1:(0:Int)<=(a7.length:Int):=by omega
             have A9:(ju S (recs.take k)++((S.take j).filter (okF (a7,a8))).map (Qz (a7,a8))).length<=20000:=by
              have h1:=q0j S (recs.take k);have h2:=qji (okF (a7,a8)) (S.take j);have h3:(recs.take k).length*S.length<=1000*12:=Nat.mul_le_mul (by rw[qk3];omega) s1;rw[qih,qk0];rw[qk3] at h2;omega
             generalize s3:(ju S (recs.take k)++((S.take j).filter (okF (a7,a8))).map (Qz (a7,a8)))=RR at d5 t5 t4 A9;have B6:=qgr s3;have hlo:wo.heap.size<=wa.heap.size:=by have:=g6.out.size;omega
             clear m3 l9 l6 n1 n2 n3 s3;refine qU 21 (λw'=>w'.cell? ⟨Pb,0,none⟩=some (.slice (some ⟨LB,lo,none⟩) a7.length pc)/\w'.cell? ⟨Pb,1,none⟩=some (.int .u8 (a8:Nat))) (by kernel_rfl) (by kernel_rfl) s0 (λa6=>?_);simp only[qh1,qh7,qhj,qir,qhd,qhr,qhs,qi1,qhn,qha];refine tk 0 (h:=tk 1 (h:=tk 2 (h:=tk 3 (h:=tk 4 (h:=tk 5 (h:=tk 6 (h:=tk 7 (h:=tk 8 (h:=tk 9 (h:=tk 10 (h:=tk 13 (h:=tk 14 (h:=tk 15 (h:=?_))))))))))))));try go_frame
             refine rdy [11] ?_;refine cns 11 (λK hK=>?_) ?_
             ·skip;go_simp;refine hK.out _ _ (by first | exact a6 | exact s7 | exact s2 | exact⟨(qgs _ _ none).cell a6.1 (by simp),(qgs _ _ none).cell a6.2 (by simp)⟩) (λa6=>?_);clear hK K;try go_frame
              refine rdy [12] ?_;refine cns 12 (λK hK=>?_) ?_
              ·skip;have hgb:wr.grownBy (wa.drew.alloc (.cells #[.slice (some ⟨XB,xo,none⟩) s.length xc] 29)) none:=C3.out.trans (qgs _ _ none);refine Y7 rfl (.tmp 105) (.tmp 107) rfl (nc:=pc) (B:=wa.heap.size) (y:=.slice (some ⟨XB,xo,none⟩) s.length xc) (l:=s) (by rfl) (by rfl) ((s9.out.kept hgb (by simp)).mono (qgw _) hgb.size) (kE wa.drew _ _ _) ((H1.out.kept hgb (by simp)).mono (qhz _) (qgE w8 hgb.size)) (by omega) (λg cap w2 q2 q3 q5=>?_);have hg2:=hgb.trans q2;have s2:w2.cell? ⟨Pb,0,none⟩=some (.slice (some ⟨LB,lo,none⟩) a7.length pc)/\w2.cell? ⟨Pb,1,none⟩=some (.int .u8 (a8:Nat)):=⟨q2.cell ((qgs wa.drew _ none).cell p8 (by simp)) (by simp),q2.cell ((qgs wa.drew _ none).cell p7 (by simp)) (by simp)⟩;have d8:=qgr hg2;have B9:=qgr q3;have B8:=qgr q5;have M5:wa.heap.size<=w2.heap.size:=by have:=hg2.size;omega
               clear hgb q2 q3 q5 hg2;refine hK.out _ _ (by first | exact a6 | exact s7 | exact s2 | exact⟨(qgs _ _ none).cell a6.1 (by simp),(qgs _ _ none).cell a6.2 (by simp)⟩) (λa6=>?_);clear hK K;try go_frame
               refine rdy [16] ?_;refine cns 16 (λK hK=>?_) ?_
               ·skip;go_simp;go_at_call 123;refine(e6.out w2 d8.out).mono ?_;rintro e w3 ⟨rfl,rfl⟩;refine hK.out _ _ (by first | exact a6 | exact s7 | exact s2 | exact⟨(qgs _ _ none).cell a6.1 (by simp),(qgs _ _ none).cell a6.2 (by simp)⟩) (λa6=>?_);clear hK K;try go_frame
                refine tk 17 (h:=tk 18 (h:=?_));try go_frame
                refine rdy [19] ?_;refine cns 19 (λK hK=>?_) ?_
                ·skip;go_simp;refine hK.out _ _ (by first | exact a6 | exact s7 | exact s2 | exact⟨(qgs _ _ none).cell a6.1 (by simp),(qgs _ _ none).cell a6.2 (by simp)⟩) (λa6=>?_);clear hK K;try go_frame
                 refine rdy [20] ?_;refine cns 20 (λK hK=>?_) ?_
                 ·skip;have s4:=jL (C:=w2) d5.out (λg e=>d8.out.block g (d5.out.lt g e).2 (by simp));refine step_append_lies _ (by rfl) _ _ _ (by rfl) wo.heap.size 133 i0 _ 2 32 Tp.und134 E5 C8 C7 C6 rfl (by omega) (.slice oa om oc) RR.length (ZV C) (by rfl) (by exact s4.alloc _) ⟨w2.heap.size,0,none⟩ 1 1 [.slice (some ⟨g,0,none⟩) (a7.length+1) cap,.int .u8 ((a8 ||| ms:Nat):Int)] (by rfl) (by rfl) (qit (cs:=#[.slice (some ⟨g,0,none⟩) (a7.length+1) cap,.int .u8 ((a8 ||| ms:Nat):Int)]) (t:=133) (fr:=(0,0)) (qgC w2 _)) (by simp[qjh]) (by omega) (by unfold qky;omega) (by omega) (by simp;omega) (w2.heap.size+1) (by simp) ?_;intro g' cp w7 d9 a9 k0 r5;have h6:(w2.alloc (.cells #[.slice (some ⟨g,0,none⟩) (a7.length+1) cap,.int .u8 ((a8 ||| ms:Nat):Int)] 133)).grownBy w7 (qhw oa om oc).ownBlock:=⟨a9.os,a9.tape,a9.output,a9.size,a9.block⟩;have d7:=d8.out.trans (qgs w2 (.cells #[.slice (some ⟨g,0,none⟩) (a7.length+1) cap,.int .u8 ((a8 ||| ms:Nat):Int)] 133) none);have g5:wr.grownBy w7 (qhw oa om oc).ownBlock:=(d7.but _).trans h6;have b7:=blk g5 (λe=>e8.out _ e.symm rfl) e7.out;have s7:w7.cell? ⟨Pb,0,none⟩=some (.slice (some ⟨LB,lo,none⟩) a7.length pc)/\w7.cell? ⟨Pb,1,none⟩=some (.int .u8 (a8:Nat)):=⟨q9 b7 rfl,q9 b7 rfl⟩;have m6:=jL (C:=w2.alloc (.cells #[.slice (some ⟨g,0,none⟩) (a7.length+1) cap,.int .u8 ((a8 ||| ms:Nat):Int)] 133)) d5.out (λg e=>d7.block g (d5.out.lt g e).2 (by simp));have g8:vP (w2.alloc (.cells #[.slice (some ⟨g,0,none⟩) (a7.length+1) cap,.int .u8 ((a8 ||| ms:Nat):Int)] 133)) (.slice (some ⟨g,0,none⟩) (a7.length+1) cap) (.int .u8 ((a8 ||| ms:Nat):Int)) (a7++[s],a8 ||| ms):=⟨(B9.out.kept (qgs w2 _ none) (by simp)).mono (qgw _) (qgs w2 _ none).size,rfl,λa n c e=>by cases e;exact B8.out⟩;have h8:=jG.push m6 t5.out (λi p x e1 e2=>(t4.out i p x e1 e2).kept d7) h6 d9 (g8.app m6 h6);have t3:=qgr h8;have g7:=qgr g5;have C1:=qgr b7;have C5:=qgr k0;clear d9 a9 k0 r5 h6 d7 g5 b7 s4 m6 g8 h8;refine hK.out _ _ (by first | exact a6 | exact s7 | exact s2 | exact⟨(qgs _ _ none).cell a6.1 (by simp),(qgs _ _ none).cell a6.2 (by simp)⟩) (λa6=>?_);clear hK K;try go_frame
                  refine⟨by kernel_rfl,?_⟩;simp only[qhA,qio];clear s0 p8 p7 s2 s7 a6;go_wp2;refine⟨⟨j+1,by simp,by omega,g6.out.andThen g7.out (λi e=>.inl (d5.out.lt i e).1),C1.out,λi e=>?_,?_⟩,by simp[qia];omega⟩
                  ·obtain rfl:g'=i:=by simpa[qhp] using e
                   rcases C5.out with h | h
                   ·exact e8.out _ h
                   ·have:=d8.out.size;omega
                  ·rw[t8.out,if_pos b8.out,qiH,<- qjp,B6.out,show List.map (Qz (a7,a8)) [s]=[Qz (a7,a8) s] from rfl,z0.out];exact t3.out
                 exact qp.nil
                exact qp.nil
               exact qp.nil
              exact qp.nil
             exact qp.nil
            ·have z1:(((a8 &&& ms:Nat):Int) != 0)=true:=by simpa using hz
             have hok:okF (a7,a8) s=false:=by rw[b6.out];simpa using hz
             have b8:=qgr hok;have d6:=n9.out;clear hz hok;go_upto_region 25 with(fail);go_quiet (first | (go_at_call 123;refine qiG ((e6.out _ (qk _ _ none)).mono (λe w5 h=>⟨h.1,h.2.symm⟩))));go_wp2;exact⟨⟨j+1,by simp,by omega,g6.out.trans (qk _ _ none),e7.out,e8.out,m7.out b8.out _ (qk _ _ none)⟩,by simp[qia];omega⟩
          ·have M8:¬ (0:Int)<(a7.length:Int):=by omega
           rw[show decide (0<a7.length)=false by simpa using u7] at b6;simp only[Bool.false_and,qmh,qm9] at b6;by_cases hz:a8 &&& ms=0
           ·have z1:(((a8 &&& ms:Nat):Int) != 0)=false:=by rw[hz];rfl
            have hok:okF (a7,a8) s=true:=by rw[b6.out];simpa using hz
            have b8:=qgr hok;have d6:=n9.out;clear hz hok;go_upto_region 25 with(fail);go_quiet (first | (go_at_call 123;refine qiG ((e6.out _ (qk _ _ none)).mono (λe w5 h=>⟨h.1,h.2.symm⟩))));go_upto_region 26 with(fail);have m3:=qk wr nq none;have z2:wr.heap.size=(wr.drewN nq).heap.size:=rfl;generalize wr.drewN nq=wa at m3 z2 ⊢;have l9:wr.grownBy wa.drew none:=m3.trans (qg wa none);have l6:=blk l9 (by simp) e7.out;have s0:wa.drew.cell? ⟨Pb,0,none⟩=some (.slice pa a7.length pc)/\wa.drew.cell? ⟨Pb,1,none⟩=some (.int .u8 (a8:Nat)):=⟨q9 l6 rfl,q9 l6 rfl⟩;have p8:=s0.1;have p7:=s0.2;obtain⟨C,n1,n2,n3⟩:=n7.out;obtain⟨oa,om,oc,eo⟩:=zK n1;subst eo;have C3:=qgr l9;have d5:=qgr n1;have t5:=qgr n2;have t4:=qgr n3;have hor:=L0.out;have D8:(a7.length:Int)<=(pc:Int):=by omega
            have E1:(0:Int)<=(a7.length:Int):=by omega
            have A9:(ju S (recs.take k)++((S.take j).filter (okF (a7,a8))).map (Qz (a7,a8))).length<=20000:=by
             have h1:=q0j S (recs.take k);have h2:=qji (okF (a7,a8)) (S.take j);have h3:(recs.take k).length*S.length<=1000*12:=Nat.mul_le_mul (by rw[qk3];omega) s1;rw[qih,qk0];rw[qk3] at h2;omega
            generalize s3:(ju S (recs.take k)++((S.take j).filter (okF (a7,a8))).map (Qz (a7,a8)))=RR at d5 t5 t4 A9;have B6:=qgr s3;have hlo:wo.heap.size<=wa.heap.size:=by have:=g6.out.size;omega
            clear m3 l9 l6 n1 n2 n3 s3;refine qU 21 (λw'=>w'.cell? ⟨Pb,0,none⟩=some (.slice pa a7.length pc)/\w'.cell? ⟨Pb,1,none⟩=some (.int .u8 (a8:Nat))) (by kernel_rfl) (by kernel_rfl) s0 (λa6=>?_);simp only[qh1,qh7,qhj,qir,qhd,qhr,qhs,qi1,qhn,qha];refine tk 0 (h:=tk 1 (h:=tk 2 (h:=tk 3 (h:=tk 4 (h:=tk 5 (h:=tk 6 (h:=tk 7 (h:=tk 8 (h:=tk 9 (h:=tk 10 (h:=tk 13 (h:=tk 14 (h:=tk 15 (h:=?_))))))))))))));try go_frame
            refine rdy [11] ?_;refine cns 11 (λK hK=>?_) ?_
            ·skip;go_simp;refine hK.out _ _ (by first | exact a6 | exact s7 | exact s2 | exact⟨(qgs _ _ none).cell a6.1 (by simp),(qgs _ _ none).cell a6.2 (by simp)⟩) (λa6=>?_);clear hK K;try go_frame
             refine rdy [12] ?_;refine cns 12 (λK hK=>?_) ?_
             ·skip;have hgb:wr.grownBy (wa.drew.alloc (.cells #[.slice (some ⟨XB,xo,none⟩) s.length xc] 29)) none:=C3.out.trans (qgs _ _ none);refine Y7 rfl (.tmp 105) (.tmp 107) rfl (nc:=pc) (B:=wa.heap.size) (y:=.slice (some ⟨XB,xo,none⟩) s.length xc) (l:=s) (by rfl) (by rfl) ((s9.out.kept hgb (by simp)).mono (qgw _) hgb.size) (kE wa.drew _ _ _) ((H1.out.kept hgb (by simp)).mono (qhz _) (qgE w8 hgb.size)) (by omega) (λg cap w2 q2 q3 q5=>?_);have hg2:=hgb.trans q2;have s2:w2.cell? ⟨Pb,0,none⟩=some (.slice pa a7.length pc)/\w2.cell? ⟨Pb,1,none⟩=some (.int .u8 (a8:Nat)):=⟨q2.cell ((qgs wa.drew _ none).cell p8 (by simp)) (by simp),q2.cell ((qgs wa.drew _ none).cell p7 (by simp)) (by simp)⟩;have d8:=qgr hg2;have B9:=qgr q3;have B8:=qgr q5;have M5:wa.heap.size<=w2.heap.size:=by have:=hg2.size;omega
              clear hgb q2 q3 q5 hg2;refine hK.out _ _ (by first | exact a6 | exact s7 | exact s2 | exact⟨(qgs _ _ none).cell a6.1 (by simp),(qgs _ _ none).cell a6.2 (by simp)⟩) (λa6=>?_);clear hK K;try go_frame
              refine rdy [16] ?_;refine cns 16 (λK hK=>?_) ?_
              ·skip;go_simp;go_at_call 123;refine(e6.out w2 d8.out).mono ?_;rintro e w3 ⟨rfl,rfl⟩;refine hK.out _ _ (by first | exact a6 | exact s7 | exact s2 | exact⟨(qgs _ _ none).cell a6.1 (by simp),(qgs _ _ none).cell a6.2 (by simp)⟩) (λa6=>?_);clear hK K;try go_frame
               refine tk 17 (h:=tk 18 (h:=?_));try go_frame
               refine rdy [19] ?_;refine cns 19 (λK hK=>?_) ?_
               ·skip;go_simp;refine hK.out _ _ (by first | exact a6 | exact s7 | exact s2 | exact⟨(qgs _ _ none).cell a6.1 (by simp),(qgs _ _ none).cell a6.2 (by simp)⟩) (λa6=>?_);clear hK K;try go_frame
                refine rdy [20] ?_;refine cns 20 (λK hK=>?_) ?_
                ·skip;have s4:=jL (C:=w2) d5.out (λg e=>d8.out.block g (d5.out.lt g e).2 (by simp));refine step_append_lies _ (by rfl) _ _ _ (by rfl) wo.heap.size 133 i0 _ 2 32 Tp.und134 E5 C8 C7 C6 rfl (by omega) (.slice oa om oc) RR.length (ZV C) (by rfl) (by exact s4.alloc _) ⟨w2.heap.size,0,none⟩ 1 1 [.slice (some ⟨g,0,none⟩) (a7.length+1) cap,.int .u8 ((a8 ||| ms:Nat):Int)] (by rfl) (by rfl) (qit (cs:=#[.slice (some ⟨g,0,none⟩) (a7.length+1) cap,.int .u8 ((a8 ||| ms:Nat):Int)]) (t:=133) (fr:=(0,0)) (qgC w2 _)) (by simp[qjh]) (by omega) (by unfold qky;omega) (by omega) (by simp;omega) (w2.heap.size+1) (by simp) ?_;intro g' cp w7 d9 a9 k0 r5;have h6:(w2.alloc (.cells #[.slice (some ⟨g,0,none⟩) (a7.length+1) cap,.int .u8 ((a8 ||| ms:Nat):Int)] 133)).grownBy w7 (qhw oa om oc).ownBlock:=⟨a9.os,a9.tape,a9.output,a9.size,a9.block⟩;have d7:=d8.out.trans (qgs w2 (.cells #[.slice (some ⟨g,0,none⟩) (a7.length+1) cap,.int .u8 ((a8 ||| ms:Nat):Int)] 133) none);have g5:wr.grownBy w7 (qhw oa om oc).ownBlock:=(d7.but _).trans h6;have b7:=blk g5 (λe=>e8.out _ e.symm rfl) e7.out;have s7:w7.cell? ⟨Pb,0,none⟩=some (.slice pa a7.length pc)/\w7.cell? ⟨Pb,1,none⟩=some (.int .u8 (a8:Nat)):=⟨q9 b7 rfl,q9 b7 rfl⟩;have m6:=jL (C:=w2.alloc (.cells #[.slice (some ⟨g,0,none⟩) (a7.length+1) cap,.int .u8 ((a8 ||| ms:Nat):Int)] 133)) d5.out (λg e=>d7.block g (d5.out.lt g e).2 (by simp));have g8:vP (w2.alloc (.cells #[.slice (some ⟨g,0,none⟩) (a7.length+1) cap,.int .u8 ((a8 ||| ms:Nat):Int)] 133)) (.slice (some ⟨g,0,none⟩) (a7.length+1) cap) (.int .u8 ((a8 ||| ms:Nat):Int)) (a7++[s],a8 ||| ms):=⟨(B9.out.kept (qgs w2 _ none) (by simp)).mono (qgw _) (qgs w2 _ none).size,rfl,λa n c e=>by cases e;exact B8.out⟩;have h8:=jG.push m6 t5.out (λi p x e1 e2=>(t4.out i p x e1 e2).kept d7) h6 d9 (g8.app m6 h6);have t3:=qgr h8;have g7:=qgr g5;have C1:=qgr b7;have C5:=qgr k0;clear d9 a9 k0 r5 h6 d7 g5 b7 s4 m6 g8 h8;refine hK.out _ _ (by first | exact a6 | exact s7 | exact s2 | exact⟨(qgs _ _ none).cell a6.1 (by simp),(qgs _ _ none).cell a6.2 (by simp)⟩) (λa6=>?_);clear hK K;try go_frame
                 refine⟨by kernel_rfl,?_⟩;simp only[qhA,qio];clear s0 p8 p7 s2 s7 a6;go_wp2;refine⟨⟨j+1,by simp,by omega,g6.out.andThen g7.out (λi e=>.inl (d5.out.lt i e).1),C1.out,λi e=>?_,?_⟩,by simp[qia];omega⟩
                 ·obtain rfl:g'=i:=by simpa[qhp] using e
                  rcases C5.out with h | h
                  ·exact e8.out _ h
                  ·have:=d8.out.size;omega
                 ·rw[t8.out,if_pos b8.out,qiH,<- qjp,B6.out,show List.map (Qz (a7,a8)) [s]=[Qz (a7,a8) s] from rfl,z0.out];exact t3.out
                exact qp.nil
               exact qp.nil
              exact qp.nil
             exact qp.nil
            exact qp.nil
           ·have z1:(((a8 &&& ms:Nat):Int) != 0)=true:=by simpa using hz
            have hok:okF (a7,a8) s=false:=by rw[b6.out];simpa using hz
            have b8:=qgr hok;have d6:=n9.out;clear hz hok;go_upto_region 25 with(fail);go_quiet (first | (go_at_call 123;refine qiG ((e6.out _ (qk _ _ none)).mono (λe w5 h=>⟨h.1,h.2.symm⟩))));go_wp2;exact⟨⟨j+1,by simp,by omega,g6.out.trans (qk _ _ none),e7.out,e8.out,m7.out b8.out _ (qk _ _ none)⟩,by simp[qia];omega⟩
         ·obtain rfl:j=S.length:=by omega
          have S1:¬ (S.length:Int)<(S.length:Int):=by omega
          clear l8;go_wp2;refine⟨⟨k+1,by simp,by omega,λq hq=>?_,g6.out,?_⟩,by simp[qia];omega⟩
          ·rw[qi7,p6.out] at hq;rcases qiF.1 hq with h | h
           ·exact C2.out q h
           ·simp at h;subst h;exact P1.out
          ·rw[q5o p6.out];have:=n7.out;rw[qiy] at this;exact this
      ·obtain rfl:k=recs.length:=by omega
       have hnt:(recs.find? λp=>p.2 == al)=none:=qlG.2 λp hp=>by have:=C2.out p (by rw[qiy];exact hp);simpa using this
       have c8:=x8.out;rw[hnt] at c8;have E4:(ju S recs).length<=1000:=by
        refine qin λh=>?_;simp only[if_neg h] at c8;cases c8
       simp only[if_pos E4] at c8;have hne:ju S recs≠[]:=λh=>by
        rw[if_pos h] at c8;cases c8
       rw[if_neg hne] at c8;have l7:=v7.out;rw[qiy] at l7;have F8:∀W v,Qh W v (ju S recs)->q6g S al R v W n:=λW v hr=>by
        refine⟨_,hr,⟨E4,λq hq=>?_⟩,λq hq=>?_,c8⟩
        ·obtain⟨p,hp,s,hs,rfl⟩:=q0q hq;have h1:=(s8.out.2 p hp);have h2:=B7.out p hp;have h3:=Qs s 5 λy hy=>by have:=(v4.out s hs).2 y hy;omega
         refine⟨λr hr=>?_,Nat.or_lt_two_pow (n:=5) h1.2.1 h3,by simp[Qz];omega⟩;rcases qiF.1 hr with h | h
         ·exact h1.1 r h
         ·rw[qib.1 h];exact hs
        ·obtain⟨p,hp,s,hs,rfl⟩:=q0q hq;have h2:=B7.out p hp;simp[Qz];omega
       have D9:=F8 wr u11 l7.recs;obtain⟨xb,xc,hx,-⟩:=l7.recs;have hxl:(ju S recs).length≠0:=λh=>hne (qhv h);generalize (ju S recs).length=xl at hx hxl;subst hx;have K4:=qgr D9;have R5:((xl:Int) == 0)=false:=by rw[beq_eq_false_iff_ne];omega
       clear D9 F8 c8 l7 hne;go_wp2;exact⟨⟨⟨n,by omega,K4.out⟩,HG.out.trans t6.out⟩,Nat.lt_of_le_of_lt (q34 (by omega) K4.out) (by rw[<- P3.out];omega)⟩
end
section
open Go Go.RowKit Go.Co
theorem yF{n:Int}(h:0<=n/\n<=30):YOk (zi n) 6:=⟨by simp[zi],λp hp=>by
 simp only[zi,qif,qiD,or_false] at hp;rcases hp with rfl | rfl | rfl | rfl<;>(dsimp only;omega),by omega,by omega⟩
theorem vg(n:Int):(zi n).length=4:=rfl
theorem q2q(n:Int):∀(x:List Int),(∀y∈x,0<=y/\y<4)->∀a:Int,(x.map (kW (zi n))).foldl (·+·) a=a+(2*(x.count 0:Int)+2*(x.count 1:Int)+(x.count 2:Int)+(x.count 3:Int))
 | [],_,a=>by simp
 | y::t,h,a=>by
  have ih:=q2q n t (λz hz=>h z (by simp[hz]));have hy:=h y (by simp);simp only[qjr,qje];rw[ih];obtain rfl | rfl | rfl | rfl:y=0\/y=1\/y=2\/y=3:=by omega
  all_goals simp[qp2,kW,zi];try omega
theorem ZI{x:List Int}(h:x.Nodup)(a:Int):x.count a<=1:=by
 induction x with
 | nil=>simp
 | cons y t ih=>
  rw[List.nodup_cons] at h;rw[qp2];by_cases e:y=a
  ·subst e;have:=List.count_eq_zero.2 h.1;simp[this]
  ·simp[e];exact ih h.2
theorem JW{n:Int}(x:List Int)(hn:x.Nodup)(hx:∀y∈x,0<=y/\y<(zi n).length):POk (zi n) 6 x:=by
 have h4:∀y∈x,0<=y/\y<4:=λy hy=>by have:=hx y hy;rw[vg] at this;omega
 have hs:=q2q n x h4 0;have c0:=ZI hn 0;have c1:=ZI hn 1;have c2:=ZI hn 2;have c3:=ZI hn 3;refine⟨hx,hn,?_,?_⟩
 ·unfold qK;rw[hs];omega
 ·have key:∀(x:List Int),(∀y∈x,0<=y/\y<4)->x.length=x.count 0+x.count 1+x.count 2+x.count 3:=by
   intro x;induction x with
   | nil=>simp
   | cons y t ih=>
    intro h;have:=ih (λz hz=>h z (by simp[hz]));have hy:=h y (by simp);obtain rfl | rfl | rfl | rfl:y=0\/y=1\/y=2\/y=3:=by omega
    all_goals simp[qp2];omega
  have:=key x h4;omega
theorem JQ(n:Int):POk (zi n) 6 [0,1,2]:=JW _ (by decide) (by simp[vg])
theorem qcC(n:Int):POk (zi n) 6 [2,1,0]:=JW _ (by decide) (by simp[vg])
theorem qbj:yz (zi 12) [0,1,2]=[(6,9),(2,3),(0,0)]:=by kernel_rfl
theorem q8o:Qj (zi 8) [0,1,2]=3:=by kernel_rfl
theorem qbi:QZ (zi 8) [0,1,2]=.tuple #[.agg #[.int .i64 (-1),.int .i64 2],.int .i64 0]:=by kernel_rfl
theorem qdf:Zw (zi 12) 6 3 10 [qT [2,1,0]] [qT [2,1,0]] 0=some (some (3,[0,1,2])):=by kernel_rfl
theorem qde:(jY (zi 12) 6 (yp (zo (zi 12).length) 0)).2=[0,1,2]:=by kernel_rfl
theorem q8q:vC (zi 8) (yp (zo (zi 8).length) 0)=[[0],[1],[2],[3],[0,1],[0,2],[0,3],[1,2],[1,3]]:=by kernel_rfl
def exS:List (List Int):=[[0],[1],[2],[3],[0,1],[0,2],[0,3],[1,2],[1,3]]
theorem qf4:qbb 10 (zI exS.length exS) (zy (zo (zi 8).length)) [([],0)]=some (some [[0,2],[1,3]]):=by kernel_rfl
theorem q8p:∀s∈zI exS.length exS,s≠[]/\∀x∈s,0<=x/\x<5:=by decide
def K7(ps:List Par)(l wl:List Int):Bool:=(qhl (q69 ps wl)).any λi=>qu ps (ovr (KL ps wl i) (pre Par.mn ps ps.length) wl wl.length) l && !qu ps (ovr (KL ps wl i) (pre Par.mx ps ps.length) wl wl.length) l
theorem q4e(ps:List Par)(l wl:List Int):K7 ps l wl=true↔J5 ps l wl:=by
 unfold K7 J5;rw[List.any_eq_true];constructor
 ·rintro⟨i,h1,h2⟩;exact⟨i,qj3.1 h1,h2⟩
 ·rintro⟨i,h1,h2⟩;exact⟨i,qj3.2 h1,h2⟩
theorem q9p(ps:List Par)(l c:List Int):yV ps l c=!K7 ps l c:=q2u (q4e ps l c)
theorem qbh:jg (yV (zi 8) [0,1,2]) (yp [0,1,2] 0) []=(true,[1,2]):=by
 have e:yV (zi 8) [0,1,2]=λc=>!K7 (zi 8) [0,1,2] c:=funext λc=>q9p _ _ _;have h:jg (λc=>!K7 (zi 8) [0,1,2] c) (yp [0,1,2] 0) []=(true,[1,2]):=by kernel_rfl
 exact(congrArg (λp=>jg p (yp [0,1,2] 0) []) e).trans h
end
section
open Go.RowKit
theorem yn(n:Int)(w:qgt):qhx Ya 80 #[.int .i64 n] w λe w'=>∃v,e=.returned (.agg #[v,.int .i64 6])/\w.grownBy w' none/\qw w.heap.size w'.heap.size w' v (zi n)/\∀(ad:qi2) (m c:Nat),v=.slice (some ad) m c->∃cs e f,w'.heap[ad.block]?=some (.cells cs e f)/\∀(i:Nat) u,cs[i]?=some u->∃k m,u=.int k m:=by
 obtain⟨A,hA⟩:∃A,A=w.heap.size:=⟨_,rfl⟩;obtain⟨w1,a6⟩:∃w1,w1=w.alloc (.cells #[.slice none 0 0,.int .i64 0] 24):=⟨_,rfl⟩;have hR:w1.heap[A]?=some (.cells #[.slice none 0 0,.int .i64 0] 24 (0,0)):=by rw[a6,hA];exact qgC w _
 have hG:w.grownBy w1 none:=by rw[a6];exact qgs _ _ none
 have HA:=qgr hA;have b8:=qgr a6;have HR:=qgr hR;have HG:=qgr hG;clear hA a6 hR hG;go_enter Tp.x80,Tryz.ntmps80;go_upto_region 1 with(fail);rw[<- HA.out,show w.alloc (.cells #[.slice none 0 0,.int .i64 0] 24)=w1 from b8.out.symm];have HT:=qgr (qh6 w1 none);have s0:=q9 (o:=0) HR.out rfl;have s1:=q9 (o:=1) HR.out rfl;have f0:=qq (o:=0) HR.out;have f1:=qq (o:=1) HR.out;have b7:=(qgu.1 HR.out).1;go_wp2_with (first
  | (go_at_call 39;go_must (refine(q5l _ _ _ _ _).mono ?_);rintro e w2 ⟨rfl,hg⟩;replace HT:=qgr (HT.out.trans hg);replace s0:=q9 (o:=0) (blk HT.out (by simp) HR.out) rfl;replace s1:=q9 (o:=1) (blk HT.out (by simp) HR.out) rfl;replace f0:=qq (o:=0) (blk HT.out (by simp) HR.out);replace f1:=qq (o:=1) (blk HT.out (by simp) HR.out);replace b7:=(qgu.1 (blk HT.out (by simp) HR.out)).1;clear hg))
 obtain⟨cs,hcs⟩:∃cs:Array qgx,cs=#[.int .i64 8,.int .i64 10,.int .i64 n,.int .i64 2,.int .i64 4,.int .i64 6,.int .i64 6,.int .i64 2,.int .i64 2,.int .i64 3,.int .i64 3,.int .i64 1,.int .i64 5,.int .i64 5,.int .i64 0,.int .i64 1]:=⟨_,rfl⟩;obtain⟨W,a7⟩:∃W,W=((w2.setCell ⟨A,0,none⟩ (.slice (some ⟨w2.heap.size,0,none⟩) 4 4)).setCell ⟨A,1,none⟩ (.int .i64 6)).alloc (.cells cs 28):=⟨_,rfl⟩;have hz:((w2.setCell ⟨A,0,none⟩ (.slice (some ⟨w2.heap.size,0,none⟩) 4 4)).setCell ⟨A,1,none⟩ (.int .i64 6)).heap.size=w2.heap.size:=by simp[qja]
 have b0:W.heap[A]?=some (.cells #[.slice (some ⟨w2.heap.size,0,none⟩) 4 4,.int .i64 6] 24 (0,0)):=by rw[a7];exact qr (by rw[qj (qj (blk HT.out (by simp) HR.out))];rfl)
 have a8:W.heap[w2.heap.size]?=some (.cells cs 28 (0,0)):=by
  have:=qgC ((w2.setCell ⟨A,0,none⟩ (.slice (some ⟨w2.heap.size,0,none⟩) 4 4)).setCell ⟨A,1,none⟩ (.int .i64 6)) (.cells cs 28);rw[hz,<- a7] at this;exact this
 have hA:=HA.out;have b6:w.grownBy W none:=((HG.out.trans HT.out).andThen (row':=some A) ((qh _ _ _ _).trans (qh _ _ _ _)) (by rintro j e;cases e;exact .inl (by omega))).trans (by rw[a7];exact qgs _ _ _);have hsz:=(HG.out.trans HT.out).size;have a9:w2.heap.size<W.heap.size:=(qgu.1 a8).1;rw[<- hcs,<- a7];refine qjD (v:=.agg #[.slice (some ⟨w2.heap.size,0,none⟩) 4 4,.int .i64 6]) (by simp[qk1,Tryz.results80,go_sem,qhu,b0]) rfl ⟨_,rfl,b6,⟨some ⟨w2.heap.size,0,none⟩,4,rfl,by simp[zi],λ_=>⟨w2.heap.size,0,cs,_,rfl,hsz,a9,a8,λi hi=>?_⟩⟩,λad m c e=>?_⟩;rotate_left
 ·cases e;refine⟨cs,_,_,a8,λi u hu=>?_⟩;rw[hcs] at hu;have hm:=qiC hu;simp only[qka,qif,qiD,or_false] at hm;rcases hm with h | h | h | h | h | h | h | h | h | h | h | h | h | h | h | h<;>exact⟨_,_,h⟩
 obtain rfl | rfl | rfl | rfl:i=0\/i=1\/i=2\/i=3:=by simp[zi] at hi;omega
 all_goals
  rw[hcs];exact⟨_,rfl,rfl,rfl,rfl,rfl⟩
end
section
open Go Go.RowKit Go.Co Go.Sim Go.Conc Go.ConcN
theorem Zx{w:qgt}{B:Nat}{cs:Array qgx}{fr:Nat × Nat}(l:List Int)(h:w.heap[B]?=some (.cells cs 3 fr))(hc:cs=(l.map (qhe .i64)).toArray)(hl:(l.length:Int)<=1000000):qe 0 w.heap.size w (.slice (some ⟨B,0,none⟩) l.length l.length) l :=
 ⟨_,_,rfl,hl,λ_=>⟨B,0,cs,fr,rfl,qhz _,qA h,h,λi hi=>by rw[hc];simp[hi]⟩⟩
theorem jF(w:qgt){cs:Array qgx}(l:List Int)(hc:cs=(l.map (qhe .i64)).toArray)(hl:(l.length:Int)<=1000000):qe 0 (w.alloc (.cells cs 3)).heap.size (w.alloc (.cells cs 3)) (.slice (some ⟨w.heap.size,0,none⟩) l.length l.length) l:=Zx l (qgC w _) hc hl
theorem qe.kn{w u:qgt}{T:Nat->qj1->Nat}{v:qgx}{l:List Int}(h:qe 0 w.heap.size w v l)(hg:(w.tp T).grownBy u none):qe 0 u.heap.size u v l:=(qe.kept (w:=w.tp T) h hg (by simp)).mono (qgw _) hg.size
theorem qP.kn{w u:qgt}{T:Nat->qj1->Nat}{v:qgx}{l:List (Int × Int)}(h:qP 0 w.heap.size w v l)(hg:(w.tp T).grownBy u none):qP 0 u.heap.size u v l:=(qP.kept (w:=w.tp T) h hg (by simp)).mono (qgw _) hg.size
theorem RowsIn.kn{w u:qgt}{T:Nat->qj1->Nat}{v:qgx}{l:List (List Int)}(h:RowsIn 0 w.heap.size w v l)(hg:(w.tp T).grownBy u none):RowsIn 0 u.heap.size u v l:=(RowsIn.kept (w:=w.tp T) h hg (by simp)).mono (qgw _) hg.size
theorem q7b{ps:List Par}{m:Nat}(hm:1<=m)(hk:∀p∈ps,kOf p<=m):∀(wl:List Int) (L:List (Nat->Int)),(wl.foldl (kS ps) L).length<=L.length*m ^ wl.length
 | [],L=>by simp
 | x::wl,L=>by
  have ih:=q7b hm hk wl (kS ps L x);have h1:(kS ps L x).length<=L.length*m:=by
   unfold kS;split
   ·rename_i p hp
    rw[vw];exact Nat.mul_le_mul_left _ (hk p (qhc hp))
   ·exact Nat.le_mul_of_pos_right _ hm
  rw[qje,qh1,Nat.pow_succ];refine qgE ih (qgE (Nat.mul_le_mul_right _ h1) ?_);rw[Nat.mul_assoc,Nat.mul_comm m];exact qgw _
theorem qdj{ps:List Par}{lim:Int}(h:YOk ps lim){l wl:List Int}(hl:∀y∈l,0<=y/\y<ps.length)(ll:l.length<=1000)(hwl:∀y∈wl,0<=y/\y<ps.length)(w5:wl.length<=5):qc9 ps l wl:=by
 refine⟨h.len,λp hp=>?_,hl,ll,hwl,by omega,λj hj=>?_⟩
 ·have:=h.each p hp;omega
 ·have h1:=q7b (ps:=ps) (m:=12) (by omega) (λp hp=>by have:=h.each p hp;unfold kOf;omega) (wl.take j) [λ_=>0];have h2:12 ^ (wl.take j).length<=12 ^ 5:=Nat.pow_le_pow_right (by omega) (by rw[qk3];omega);unfold yN;simp only[qh1,qh7,qhd,Nat.one_mul] at h1;omega
theorem q88{w:qgt}{B:Nat}{cs:Array qgx}{fr:Nat × Nat}(h:w.heap[B]?=some (.cells cs 26 fr))(hc:cs=#[.int .i64 6,.int .i64 9,.int .i64 2,.int .i64 3,.int .i64 0,.int .i64 0]):qP 0 w.heap.size w (.slice (some ⟨B,0,none⟩) 3 3) [(6,9),(2,3),(0,0)]:=by
 refine⟨_,_,rfl,by decide,λ_=>⟨B,0,cs,fr,rfl,qhz _,qA h,h,λi hi=>?_⟩⟩;subst hc;have hi:i<3:=hi;obtain rfl | rfl | rfl:i=0\/i=1\/i=2:=by omega
 all_goals exact⟨_,rfl,rfl,rfl⟩
theorem qaC{w:qgt}{B A1 A2:Nat}{fr:Nat × Nat}(h:w.heap[B]?=some (.cells #[.slice (some ⟨A1,0,none⟩) 2 2,.slice (some ⟨A2,0,none⟩) 2 2] 29 fr))(h1:qe 0 w.heap.size w (.slice (some ⟨A1,0,none⟩) 2 2) [0,2])(h2:qe 0 w.heap.size w (.slice (some ⟨A2,0,none⟩) 2 2) [1,3]):RowsIn 0 w.heap.size w (.slice (some ⟨B,0,none⟩) 2 2) [[0,2],[1,3]]:=by
 refine⟨_,_,rfl,by decide,λ_=>⟨B,0,_,fr,rfl,qhz _,qA h,h,λi hi=>?_⟩⟩;have hi:i<2:=hi;obtain rfl | rfl:i=0\/i=1:=by omega
 ·exact⟨_,_,rfl,rfl,h1⟩
 ·exact⟨_,_,rfl,rfl,h2⟩
theorem q6e(w:qgt):RowsIn 0 (((w.alloc (.cells #[.int .i64 0,.int .i64 2] 3)).alloc (.cells #[.int .i64 1,.int .i64 3] 3)).alloc (.cells #[.slice (some ⟨w.heap.size,0,none⟩) 2 2,.slice (some ⟨w.heap.size+1,0,none⟩) 2 2] 29)).heap.size (((w.alloc (.cells #[.int .i64 0,.int .i64 2] 3)).alloc (.cells #[.int .i64 1,.int .i64 3] 3)).alloc (.cells #[.slice (some ⟨w.heap.size,0,none⟩) 2 2,.slice (some ⟨w.heap.size+1,0,none⟩) 2 2] 29)) (.slice (some ⟨w.heap.size+2,0,none⟩) 2 2) [[0,2],[1,3]]:=by
 refine qaC (A1:=w.heap.size) (A2:=w.heap.size+1) (fr:=(0,0)) ?_ ?_ ?_
 ·have h:=qgC ((w.alloc (.cells #[.int .i64 0,.int .i64 2] 3)).alloc (.cells #[.int .i64 1,.int .i64 3] 3)) (.cells #[.slice (some ⟨w.heap.size,0,none⟩) 2 2,.slice (some ⟨w.heap.size+1,0,none⟩) 2 2] 29);rw[qgF,qgF] at h;exact h
 ·exact Zx [0,2] (qr (qr (qgC w _))) rfl (by decide)
 ·have h:=qgC (w.alloc (.cells #[.int .i64 0,.int .i64 2] 3)) (.cells #[.int .i64 1,.int .i64 3] 3);rw[qgF] at h;exact Zx [1,3] (qr h) rfl (by decide)
theorem jA[JunkSet]{f:qi8}{Post:qgx->qgt->Prop}{W:qgt}{g:qgy}{w:qgt}(F:qgt->Prop)(hF:F w)(h:∀u,F u->EL Ya qh3 f Post W g u):EL Ya qh3 f Post W g w:=h w hF
section
variable[J:JunkSet]{f:qi8}{Post:qgx->qgt->Prop}{W:qgt}
theorem qg7(D:Two Ya qh3)(hok:JunkSet.okf 137)(k5:∀i,¬ JunkSet.jk i)(hin:Ya.inits.idxOf? f=none)(hfs:∃g,Ya.funcs[f]?=some g/\Tryz.prog.funcs[f]?=some g){wq:qgt}(h0:qW wq 0) :EC Ya qh3 f Post W 23 #[] wq λv u=>v=.bool true/\(wq.tp u.tape).grownBy u none:=by
 have hs:Ya.funcs[(qhf 23).fn]?=Tryz.prog.funcs[(qhf 23).fn]?:=zh 23 (by decide);refine EC.of_body1 D (fn:=Tryz.f23) (c0:=Tryz.f23.body.getD .skip) (t:=0) Tp.x23 Tryz.func23 (by kernel_rfl) rfl λcs hb b6=>?_;have HR:=qgr b6;clear b6;simp only[Tryz.f23,qgD];walk_nrm;refine EL.sp D hb hs λT=>?_;go_wp2;refine EL.tape (wq:=wq) ?_ T;refine EL.sp D hb hs λT=>?_;go_wp2_with (first
  | (go_at_call 80;refine(yn 12 _).mono ?_;rintro e w2 ⟨v2,rfl,hg2,a6,a7⟩;have G2:=qgr hg2;have P2:=qgr a6;have I2:=qgr a7;obtain⟨yb,yc,rfl,-,-⟩:=a6.cell;clear hg2 a6 a7)
  | (go_at_call 35;refine(q87 0 _ _ _ (zi 12) 6 [0,1,2] _ ((P2.out.kept (qgs _ _ none) (by simp)).mono (qhz _) (by rw[qgF];omega)) (jF _ [0,1,2] rfl (by decide)) (qgw _) (yF (by omega)) (JQ 12)).mono ?_;rintro e w3 ⟨v3,rfl,a8,b9⟩;rw[qbj] at b9;have G3:=qgr a8;have B3:=qgr b9;clear a8 b9))
 have ga:=G2.out.trans ((qgs _ _ none).trans G3.out);refine jA (λu=>(wq.tp u.tape).grownBy u none/\qP 0 u.heap.size u v3 [(6,9),(2,3),(0,0)]) ⟨tpg ga,B3.out.mono (qhz _) (qgw _)⟩ λu1 hF=>?_;obtain⟨g1,bA⟩:=hF;clear ga B3 G3 G2 P2 I2;refine EL.sp D hb hs λT=>?_;go_wp2_with (first
  | (go_at_call 80;refine(yn 8 _).mono ?_;rintro e w2 ⟨v2,rfl,hg2,a6,a7⟩;have G2:=qgr hg2;have P2:=qgr a6;have I2:=qgr a7;obtain⟨yb,yc,rfl,-,-⟩:=a6.cell;clear hg2 a6 a7)
  | (go_at_call 37;refine(q03 0 _ _ _ (zi 8) 6 [0,1,2] _ ((P2.out.kept (qgs _ _ none) (by simp)).mono (qhz _) (by rw[qgF];omega)) (jF _ [0,1,2] rfl (by decide)) (qgw _) (yF (by omega)) (JQ 8)).mono ?_;rintro e w3 ⟨rfl,a8⟩;rw[q8o];have G3:=qgr a8;clear a8))
 have ga:=G2.out.trans ((qgs _ _ none).trans G3.out);refine jA (λu=>(wq.tp u.tape).grownBy u none/\qP 0 u.heap.size u v3 [(6,9),(2,3),(0,0)]) ⟨gb g1 (tpg ga),bA.kn ga⟩ λu2 hF=>?_;obtain⟨g2,h9⟩:=hF;clear ga G3 G2 P2 I2 g1 bA;refine EL.sp D hb hs λT=>?_;go_wp2_with (first
  | (go_at_call 80;refine(yn 8 _).mono ?_;rintro e w2 ⟨v2,rfl,hg2,a6,a7⟩;have G2:=qgr hg2;have P2:=qgr a6;have I2:=qgr a7;obtain⟨yb,yc,rfl,-,-⟩:=a6.cell;clear hg2 a6 a7)
  | (go_at_call 36;refine(q7x 0 _ _ _ (zi 8) 6 [0,1,2] _ ((P2.out.kept (qgs _ _ none) (by simp)).mono (qhz _) (by rw[qgF];omega)) (jF _ [0,1,2] rfl (by decide)) (qgw _) (yF (by omega)) (JQ 8)).mono ?_;rintro e w3 ⟨rfl,a8⟩;rw[qbi];have G3:=qgr a8;clear a8))
 obtain⟨X,hX⟩:∃X,X=w3.heap.size:=⟨_,rfl⟩;rw[<- hX];have ga:=(G2.out.trans ((qgs _ _ none).trans G3.out)).trans (qgs w3 (.cells #[.int .i64 (-1),.int .i64 2] 26) none);refine jA (λu=>(wq.tp u.tape).grownBy u none/\qP 0 u.heap.size u v3 [(6,9),(2,3),(0,0)]/\u.heap[X]?=some (.cells #[.int .i64 (-1),.int .i64 2] 26 (0,0))) ⟨gb g2 (tpg ga),h9.kn ga,by rw[hX];exact qgC _ _⟩ λu3 hF=>?_;obtain⟨g3,h8,x3⟩:=hF;clear ga G3 G2 P2 I2 g2 h9 hX;refine EL.seq D hb hs ?_;refine EL.region D hb hs ?_;simp only[qhk,qh1,qh7,qhj,qhd,qhl,qi0];refine EL.list D hb hs [0,1] [_,_] (rest:=[2,3,4,5,6,7]) rfl λT=>?_;go_wp2_with (first
  | (go_at_call 80;refine(yn 8 _).mono ?_;rintro e w2 ⟨v2,rfl,hg2,a6,a7⟩;have G2:=qgr hg2;have P2:=qgr a6;have I2:=qgr a7;obtain⟨yb,yc,rfl,-,-⟩:=a6.cell;clear hg2 a6 a7))
 obtain⟨B,hB⟩:∃B,B=w2.heap.size:=⟨_,rfl⟩;rw[<- hB];have ga:=G2.out.trans (qgs w2 (.cells #[.int .i64 0,.int .i64 1,.int .i64 2] 3) none);have b8:(w2.alloc (.cells #[.int .i64 0,.int .i64 1,.int .i64 2] 3)).heap[B]?=some (.cells #[.int .i64 0,.int .i64 1,.int .i64 2] 3 (0,0)):=by rw[hB];exact qgC _ _
 refine jA (λu=>((wq.tp u.tape).grownBy u none/\qP 0 u.heap.size u v3 [(6,9),(2,3),(0,0)]/\u.heap[X]?=some (.cells #[.int .i64 (-1),.int .i64 2] 26 (0,0)))/\qw 0 u.heap.size u (.slice yb (zi 8).length yc) (zi 8)/\qQ u (.slice yb (zi 8).length yc)/\qe 0 u.heap.size u (.slice (some ⟨B,0,none⟩) ([0,1,2]:List Int).length 3) [0,1,2]/\qQ u (.slice (some ⟨B,0,none⟩) ([0,1,2]:List Int).length 3))
  ⟨⟨gb g3 (tpg ga),h8.kn ga,blk ga (by simp) x3⟩,(P2.out.kept (qgs _ _ none) (by simp)).mono (qhz _) (by rw[qgF];omega),λad n c e=>by
   obtain⟨cs,e1,f1,h1,h2⟩:=I2.out ad n c e;exact⟨cs,e1,f1,qr h1,h2⟩,Zx [0,1,2] b8 rfl (by decide),λad n c e=>by
   cases e;refine⟨_,_,_,b8,λi u hu=>?_⟩;have hm:=qiC hu;simp only[qka,qif,qiD,or_false] at hm;rcases hm with h | h | h<;>exact⟨_,_,h⟩⟩ λu4 hF=>?_
 obtain⟨⟨g4,e9,x4⟩,p4,c3,i4,c8⟩:=hF;clear ga b8 hB G2 P2 I2 g3 h8 x3;refine EL.enter D hb hs (fk:=29) (args:=#[.agg #[.slice yb (zi 8).length yc,.int .i64 6],.slice (some ⟨B,0,none⟩) 3 3]) rfl rfl (λT=>by rw[qm7 (f:=29) rfl Tp.x29 (by kernel_rfl) rfl];walk_nrm) (zh 29 (by decide)) ?_;refine el29 D hok k5 hin hfs (ws:=[0,1,2]) (l:=[0,1,2]) (by decide) (λc hc hl=>qdj (yF (by omega)) (by simp[vg]) (by decide) (λy hy=>by have:=hc y hy;simp at this;rw[vg];omega) (by simp at hl;omega)) (xT (by decide) (by decide)) (yF (by omega)) (JQ 8) p4 c3 i4 c8 ?_ _ cs hb hs λv u hR=>?_
 ·obtain⟨cs,e,g,h0,k6⟩:=h0;exact⟨cs,e,g,blk (w:=wq.tp u4.tape) g4 (by simp) h0,k6⟩
 obtain⟨o,s,rfl,⟨bo,b7⟩,b0,d5⟩:=hR;rw[qbh] at b7;obtain⟨rfl,rfl⟩:=Prod.mk.inj b7;have g5:=gb g4 b0;have e8:=e9.kn b0;have x5:=blk (w:=u4.tp u.tape) b0 (by simp) x4;clear g4 e9 x4 p4 c3 i4 c8 b7 b0;rw[qjf];walk_nrm;refine EL.list D hb hs [3,4,5,6,7] [_,_,_,_,_] (rest:=[]) rfl λT=>?_;go_wp2;refine EL.tape (wq:=u) ?_ T;refine EL.region_end D hb hs ?_;refine EL.sp D hb hs λT=>?_;go_wp2_with (first
  | (go_at_call 80;refine(yn 12 _).mono ?_;rintro e w2 ⟨v2,rfl,hg2,a6,a7⟩;have G2:=qgr hg2;have P2:=qgr a6;have I2:=qgr a7;obtain⟨yb,yc,rfl,-,-⟩:=a6.cell;clear hg2 a6 a7)
  | (go_at_call 54;refine(q6z _ _ (zi 12) 6 [2,1,0] _ ((P2.out.kept (qgs _ _ none) (by simp)).mono (qhz _) (by rw[qgF];omega)) (jF _ [2,1,0] rfl (by decide)) (yF (by omega)) (qcC 12) 10 (by decide) (some (3,[0,1,2])) qdf).mono ?_;rintro e w3 ⟨a8,v7,rfl,c9⟩;have G3:=qgr a8;have I7:=qgr c9;clear a8 c9))
 have ga:=G2.out.trans ((qgs _ _ none).trans G3.out);refine jA (λq=>(wq.tp q.tape).grownBy q none/\qP 0 q.heap.size q v3 [(6,9),(2,3),(0,0)]/\q.heap[X]?=some (.cells #[.int .i64 (-1),.int .i64 2] 26 (0,0))/\qe 0 q.heap.size q s [1,2]/\qe 0 q.heap.size q v7 [0,1,2]) ⟨gb g5 (tpg ga),e8.kn ga,blk ga (by simp) x5,d5.kn ga,I7.out⟩ λu6 hF=>?_;obtain⟨g6,e7,x6,s6,m6⟩:=hF;clear ga G3 G2 P2 I2 I7 g5 e8 x5 d5;refine EL.sp D hb hs λT=>?_;go_wp2_with (first
  | (go_at_call 80;refine(yn 8 _).mono ?_;rintro e w2 ⟨v2,rfl,hg2,a6,a7⟩;have G2:=qgr hg2;have P2:=qgr a6;have I2:=qgr a7;obtain⟨yb,yc,rfl,-,-⟩:=a6.cell;clear hg2 a6 a7)
  | (go_at_call 63;refine(q8l _ (zi 8) 6 _ (P2.out.mono (qhz _) (qgw _)) (yF (by omega)) JW (by decide) (by decide) exS q8q.symm (by decide) (by decide) q8p 10 (by decide) [[0,2],[1,3]] qf4).mono ?_;rintro e w3 ⟨v9,rfl,a8,a9⟩;have G3:=qgr a8;have R9:=qgr a9;clear a8 a9))
 have ga:=G2.out.trans G3.out;refine jA (λq=>(wq.tp q.tape).grownBy q none/\qP 0 q.heap.size q v3 [(6,9),(2,3),(0,0)]/\q.heap[X]?=some (.cells #[.int .i64 (-1),.int .i64 2] 26 (0,0))/\qe 0 q.heap.size q s [1,2]/\qe 0 q.heap.size q v7 [0,1,2]/\RowsIn 0 q.heap.size q v9 [[0,2],[1,3]]) ⟨gb g6 (tpg ga),e7.kn ga,blk ga (by simp) x6,s6.kn ga,m6.kn ga,R9.out⟩ λu7 hF=>?_;obtain⟨g7,e6,x7,s7,m7,r7⟩:=hF;clear ga G3 G2 P2 I2 R9 g6 e7 x6 s6 m6;refine EL.sp D hb hs λT=>?_;go_wp2_with (first
  | (go_at_call 80;refine(yn 12 _).mono ?_;rintro e w2 ⟨v2,rfl,hg2,a6,a7⟩;have G2:=qgr hg2;have P2:=qgr a6;have I2:=qgr a7;obtain⟨yb,yc,rfl,-,-⟩:=a6.cell;clear hg2 a6 a7)
  | (go_at_call 44;refine(qas _ (zi 12) 6 _ (P2.out.mono (qhz _) (qgw _)) (yF (by omega))).mono ?_;rintro e w3 ⟨k0,rfl,a8,a9⟩;rw[qde] at a9;have G3:=qgr a8;have R9:=qgr a9;clear a8 a9))
 have ga:=G2.out.trans G3.out;refine jA (λq=>(wq.tp q.tape).grownBy q none/\qP 0 q.heap.size q v3 [(6,9),(2,3),(0,0)]/\q.heap[X]?=some (.cells #[.int .i64 (-1),.int .i64 2] 26 (0,0))/\qe 0 q.heap.size q s [1,2]/\qe 0 q.heap.size q v7 [0,1,2]/\RowsIn 0 q.heap.size q v9 [[0,2],[1,3]]/\qe 0 q.heap.size q k0 [0,1,2]) ⟨gb g7 (tpg ga),e6.kn ga,blk ga (by simp) x7,s7.kn ga,m7.kn ga,r7.kn ga,R9.out⟩ λu8 hF=>?_;obtain⟨g8,e5,x8,s8,m8,r8,o8⟩:=hF;clear ga G3 G2 P2 I2 R9 g7 e6 x7 s7 m7 r7;refine EL.sp D hb hs λT=>?_;have GA:=qgr (qh6 (u8.tp T) none);have c0:=q9 (w:=u8.tp T) x8 (o:=0) rfl;have c1:=q9 (w:=u8.tp T) x8 (o:=1) rfl;have k8:=λ(w:qgt)=>qbF (-1) 2 (-1) 2 w;have k7:=Kj;go_wp2_with (fail);refine(KC 0 _ 0 _ _ _ [(6,9),(2,3),(0,0)] [(6,9),(2,3),(0,0)] _ (qP.kept (w:=u8.tp T) e5 (qgs (u8.tp T) _ none) (by simp)) (q88 (qgC _ _) rfl)).mono ?_;rintro e wA ⟨rfl,e4⟩;have gA:=(qgs (u8.tp T) _ none).trans e4;have GA:=qgr gA;have S8:=qgr (s8.kn gA);have M8:=qgr (m8.kn gA);have R8:=qgr (r8.kn gA);have O8:=qgr (o8.kn gA);clear gA e4 c0 c1 s8 m8 r8 o8 e5;rw[decide_eq_true (show([(6,9),(2,3),(0,0)]:List (Int × Int))=[(6,9),(2,3),(0,0)] from rfl)];go_wp2_with (fail);refine(zW 0 _ 0 _ _ _ [1,2] [1,2] _ (S8.out.alloc _) (jF _ [1,2] rfl (by decide))).mono ?_;rintro e wB ⟨rfl,d9⟩;have gB:=(qgs wA _ none).trans d9;have GB:=qgr (GA.out.trans gB);have M9:=qgr (M8.out.kn (T:=wA.tape) gB);have R9:=qgr (R8.out.kn (T:=wA.tape) gB);have O9:=qgr (O8.out.kn (T:=wA.tape) gB);clear gB d9 GA S8 M8 R8 O8;rw[decide_eq_true (show([1,2]:List Int)=[1,2] from rfl)];go_wp2_with (fail);refine(zW 0 _ 0 _ _ _ [0,1,2] [0,1,2] _ (M9.out.alloc _) (jF _ [0,1,2] rfl (by decide))).mono ?_;rintro e wC ⟨rfl,d8⟩;have gC:=(qgs wB _ none).trans d8;have GC:=qgr (GB.out.trans gC);have RC:=qgr (R9.out.kn (T:=wB.tape) gC);have OC:=qgr (O9.out.kn (T:=wB.tape) gC);clear gC d8 GB M9 R9 O9;rw[decide_eq_true (show([0,1,2]:List Int)=[0,1,2] from rfl)];go_wp2_with (fail);refine(q1w 0 _ 0 _ _ _ [[0,2],[1,3]] [[0,2],[1,3]] _ (RC.out.kept ((qgs _ _ none).trans ((qgs _ _ none).trans (qgs _ _ none))) (by simp)) (q6e wC)).mono ?_;rintro e wD ⟨rfl,d7⟩;have gD:=((qgs wC _ none).trans ((qgs _ _ none).trans (qgs _ _ none))).trans d7;have GD:=qgr (GC.out.trans gD);have OD:=qgr (OC.out.kn (T:=wC.tape) gD);clear gD d7 GC RC OC;rw[decide_eq_true (show([[0,2],[1,3]]:List (List Int))=[[0,2],[1,3]] from rfl)];go_wp2_with (fail);refine(zW 0 _ 0 _ _ _ [0,1,2] [0,1,2] _ (OD.out.alloc _) (jF _ [0,1,2] rfl (by decide))).mono ?_;rintro e wE ⟨rfl,d6⟩;have gE:=GD.out.trans ((qgs wD _ none).trans d6);have GE:=qgr gE;clear gE d6 GD OD;rw[decide_eq_true (show([0,1,2]:List Int)=[0,1,2] from rfl)];go_wp2;refine jA (λq=>(wq.tp q.tape).grownBy q none) (gb g8 (tpg GE.out)) λu9 g9=>?_;refine EL.retS D hb hs ?_;exact HR.out _ _ u9 ⟨rfl,g9⟩
end
end
section
open Go Go.RowKit Go.Co Go.Sim Go.Conc Go.ConcN
theorem qdy.yok{n:Nat}{ps:List Par}{lim:Int}(h:qdy n ps lim)(hn:n<=5):YOk ps lim:=⟨by have:=h.len;omega,λp hp=>by
 have:=h.each p hp;have h1:=this.a;have h2:=this.b;have h3:=this.c;have h4:=this.d;have h5:=this.e;have h6:=this.f;have h7:=this.g;have h8:=this.h;omega,by have:=h.l1;omega,by have:=h.l2;omega⟩
theorem q8c{f:qi8}{fn:Func}{c0:qj9}{args:Array qgx}(hf:Ya.funcs[f]?=some fn)(a6:fn.body=some c0) :qhy Ya f args .normal=(qhf f).at ⟨args++qhC (fn.ntmps - args.size) qgz,[]⟩ [.code c0]:=by
 simp[qhy,hf,a6,Frame.at,qhf]
section
variable[J:JunkSet]{Post:qgx->qgt->Prop}{W:qgt}
end
end
section
open Go.RowKit
theorem qbG(lo hi:Nat)(v:qgx)(l:List Int)(x:Int)(w:qgt)(hI:qe lo hi w v l) :qhx Ya 40 #[v,.int .i64 x] w λe w'=>∃r:Int,e=.returned (.int .i64 r)/\(r<0↔x∉l)/\w=w':=by
 obtain⟨base,cap,rfl,b8,hc⟩:=hI.cell;have HC:=qgr hc;clear hc;go_enter Tp.x40,Tryz.ntmps40;go_wp2;go_loopw [5] (λiv wr=>∃k:Nat,iv=.int .i64 k/\k<=l.length/\(∀y∈l.take k,y≠x)/\wr=w) (λiv _=>(l.length - qia iv).toNat)
 case atStart=>exact⟨0,rfl,by omega,by simp,rfl⟩
 case round=>
  obtain⟨k,rfl,hk,a9,rfl⟩:=hrel;have b7:=qgr a9;clear a9;by_cases hlt:k<l.length
  ·obtain⟨B,o,rfl,c9,c8,c3,b0⟩:=HC.out (by intro e;rw[e] at hlt;simp at hlt);have hx:=b0 k hlt;obtain⟨y,a6⟩:∃y,l[k]?=some y:=⟨_,qgB hlt⟩;rw[a6] at hx;simp only[qgD] at hx;have b6:=qgr a6;have b9:(k:Int)<(l.length:Int):=by omega
   clear b0 a6;by_cases a8:y=x
   ·subst a8;go_wp2;go_ret;exact⟨k,rfl,⟨λh=>by omega,λh=>absurd (qhc b6.out) h⟩,rfl⟩
   ·have a7:¬ y=x:=a8;go_wp2;go_roundw
    case rel=>
     refine⟨k+1,by simp,by omega,λz hz=>?_,trivial⟩;rw[qi7,b6.out] at hz;rcases qiF.1 hz with hz | hz
     ·exact b7.out z hz
     ·obtain rfl:z=y:=by simpa using hz
      exact a7
    case measure=>simp[qia];omega
  ·obtain rfl:k=l.length:=by omega
   go_wp2;go_ret;exact⟨-1,rfl,⟨λ_ h=>b7.out x (by simpa using h) rfl,λ_=>by omega⟩,rfl⟩
theorem Qr:∀(n:Nat) (l:List Int),l.Nodup->(∀x∈l,0<=x/\x<n)->l.length<=n
 | 0,l,_,h=>by
  cases l with
  | nil=>simp
  | cons x _=>have:=h x (by simp);omega
 | n+1,l,hd,h=>by
  by_cases hm:(n:Int)∈l
  ·have h1:=Qr n (l.erase n) (hd.erase _) λx hx=>by
    have h2:=(hd.mem_erase_iff).1 hx;have:=h x h2.2;have:=h2.1;omega
   have:=qmz hm;omega
  ·have:=Qr n l hd λx hx=>by
    have h2:=h x hx;have:x≠n:=λe=>hm (e ▸ hx);omega
   omega
structure OnAt(w:qgt)(Bm Y Bp:Nat)(yb pb:Option qi2)(yc pc:Nat)(ps:List Par)(lim:Int)(l:List Int):Prop where
 m0:w.cell? ⟨Bm,0,none⟩=some (.int .u8 (zy l:Nat))
 y0:w.cell? ⟨Y,0,none⟩=some (.slice yb ps.length yc)
 y1:w.cell? ⟨Y,1,none⟩=some (.int .i64 lim)
 p0:w.cell? ⟨Bp,0,none⟩=some (.slice pb l.length pc)
 hP:qw 0 w.heap.size w (.slice yb ps.length yc) ps
 hI:qe 0 w.heap.size w (.slice pb l.length pc) l
 pl:l.length<=pc
end
section

end
section
open Go.RowKit
@[simp] theorem qgk(w:qgt):(method 355 170 (.agg #[]) "gladstone/pile.holds").run Ya w=.ok (241,.agg #[]) w:=by kernel_rfl
@[simp] theorem qgj(w:qgt):(method 355 171 (.agg #[]) "gladstone/pile.holds").run Ya w=.ok (242,.agg #[]) w:=by kernel_rfl
end
section
theorem q3s{g g':Nat->Int}(hg:∀i,g i<=g' i)(l:List Int)(k:Nat):loadAt g l k<=loadAt g' l k:=by
 have ht:∀t:List Int,tot (t.map λx=>g x.toNat)<=tot (t.map λx=>g' x.toNat):=λt=>by
  induction t with
  | nil=>exact Int.le_refl _
  | cons a t ih=>simp only[qjr,tot];have:=hg a.toNat;omega
 exact ht _
theorem q82{ps:List Par}{g g':Nat->Int}(hg:∀i,g i<=g' i){l:List Int}{k:Nat}(h:KA ps g' l k=true):KA ps g l k=true:=by
 unfold KA at h ⊢;split at h
 ·have:=q3s hg l k;have:=of_decide_eq_true h;exact decide_eq_true (by omega)
 ·cases h
theorem Y9{ps:List Par}{g:Nat->Int}{l:List Int}:qu ps g l=true↔∀k,k<l.length->KA ps g l k=true:=by
 unfold qu;rw[qhE];exact⟨λh k hk=>h k (qj3.2 hk),λh k hk=>h k (qj3.1 hk)⟩
theorem q1f{ps:List Par}{g g':Nat->Int}(hg:∀i,g i<=g' i){l:List Int}(h:qu ps g' l=true):qu ps g l=true :=
 Y9.2 λk hk=>q82 hg (Y9.1 h k hk)
theorem YOk.le{ps:List Par}{lim:Int}(h:YOk ps lim)(i:Nat):pre Par.mn ps ps.length i<=pre Par.mx ps ps.length i:=by
 unfold pre;split
 ·rename_i hi
  rw[qgB hi];have:=h.each _ (qly hi);simp only;omega
 ·omega
def qaD(n:Nat):Nat->List (List Int)
 | 0=>[[]]
 | k+1=>(qhl n).flatMap λ(i:Nat)=>(qaD n k).map λl=>(i:Int)::l
def qeF(l:List Int)(k:Nat):Bool:=(qhl k).all λ(i:Nat)=>l.contains (i:Int)
def qcE(n:Nat):List (List Int):=(qaD n n).filter λl=>qeF l n
theorem QU(ps:List Par)(x:Int)(l:List Int):qK ps (x::l)=kW ps x+qK ps l:=by
 unfold qK;rw[qjr,qje];have h:∀(l:List Int) (a b:Int),l.foldl (·+·) (a+b)=a+l.foldl (·+·) b:=by
  intro l;induction l with
  | nil=>intro a b;rfl
  | cons y l ih=>intro a b;rw[qje,qje,Int.add_assoc,ih]
 rw[Int.add_comm 0,h]
theorem QT(ps:List Par){l l':List Int}(h:l.Perm l'):qK ps l=qK ps l':=by
 induction h with
 | nil=>rfl
 | cons x _ ih=>rw[QU,QU,ih]
 | swap x y l=>simp only[QU];omega
 | trans _ _ h1 h2=>rw[h1,h2]
theorem Jt{ps:List Par}{lim:Int}(hok:YOk ps lim){l:List Int}:j5 ps lim l=true↔qK ps l<=lim/\Qj ps l=1:=by
 unfold j5 Qj;rw[qh9,decide_eq_true_eq];refine and_congr_right λ_=>?_;have hm:=q1f (ps:=ps) (l:=l) hok.le;revert hm;cases qu ps (pre Par.mn ps ps.length) l<;>cases qu ps (pre Par.mx ps ps.length) l<;>simp[q92]
theorem ZJ{x y:Int}:QA x y<0↔x<y:=by unfold QA;split<;>(try split)<;>omega
theorem Qx{x y:Int}:QA x y=0↔x=y:=by unfold QA;split<;>(try split)<;>omega
theorem Ka:∀{a b c:List Int},zq a b<0->zq b c<0->zq a c<0
 | [],b,[],h1,h2=>by cases b<;>simp[zq] at h1 h2
 | [],_,_::_,_,_=>by simp[zq]
 | _::_,[],_,h1,_=>by simp[zq] at h1
 | _::_,_::_,[],_,h2=>by simp[zq] at h2
 | x::a,y::b,z::c,h1,h2=>by
  simp only[zq] at h1 h2 ⊢;by_cases e1:QA x y=0
  ·rw[if_neg (by simpa using e1)] at h1;have e:=Qx.1 e1;subst e;by_cases e2:QA x z=0
   ·rw[if_neg (by simpa using e2)] at h2 ⊢;exact Ka h1 h2
   ·rw[if_pos e2] at h2 ⊢;exact h2
  ·rw[if_pos e1] at h1;have l1:=ZJ.1 h1;by_cases e2:QA y z=0
   ·have e:=Qx.1 e2;subst e;rw[if_pos e1];exact h1
   ·rw[if_pos e2] at h2;have l2:=ZJ.1 h2;have h3:QA x z<0:=ZJ.2 (by omega);rw[if_pos (by omega)];exact h3
theorem J8:∀a:List Int,zq a a=0
 | []=>rfl
 | x::a=>by simp[zq,Qx.2 rfl,J8 a]
def qfx(l s:List Int):List Int:=s.map λj=>l[j.toNat]?.getD 0
def qev(c:List Int):List (List Int):=(qcE c.length).map (qfx c)
structure SetOk(n:Nat)(c:List Int):Prop where
 eq:qev c=kX c
 pw:(kX c).Pairwise (λa c=>zq a c<0)
 pm:∀x∈kX c,x.Perm c
 mem:∀x∈c,0<=x/\x<n
 nd:c.Nodup
 len:c.length<=n
def lvl(n:Nat):Nat->List (List Int)->List (List Int)->List (List (List Int))
 | 0,_,now=>[now]
 | f+1,K,now=>if now=[] then[now] else now::lvl n f (yL n K now).1 (yL n K now).2
structure q16(n:Nat)(P:List Int->Prop)(g:List Int->List Int):Prop where
 inj:∀a b,P a->P b->g a=g b->a=b
 com:∀a i,P a->i+1<n->swp (g a) i=g (swp a i)
 cl:∀a i,P a->i+1<n->P (swp a i)
def kf(P:List Int->Prop)(L:List (List Int)):Prop:=∀s∈L,P s
theorem q7k{n:Nat}{P:List Int->Prop}{g:List Int->List Int}(h:q16 n P g)(A B:List (List Int))(m:List Int)(hA:kf P A)(hB:kf P B)(hm:P m) :yU (A.map g,B.map g) (g m)=((yU (A,B) m).1.map g,(yU (A,B) m).2.map g)/\kf P (yU (A,B) m).1/\kf P (yU (A,B) m).2:=by
 have e:g m∈A.map g↔m∈A:=by
  constructor
  ·intro hh;obtain⟨x,hx,a6⟩:=qkn.1 hh;rw[<- h.inj x m (hA x hx) hm a6];exact hx
  ·exact qo0
 unfold yU;by_cases hh:m∈A
 ·simp only[if_pos hh,if_pos (e.2 hh)];exact⟨trivial,hA,hB⟩
 ·simp only[if_neg hh,if_neg (mt e.1 hh),qiH,qjr,qln];refine⟨trivial,λs hs=>?_,λs hs=>?_⟩
  ·rcases qiF.1 hs with h1 | h1
   ·exact hA s h1
   ·rw[qib.1 h1];exact hm
  ·rcases qiF.1 hs with h1 | h1
   ·exact hB s h1
   ·rw[qib.1 h1];exact hm
theorem q46{n:Nat}{P:List Int->Prop}{g:List Int->List Int}(h:q16 n P g)(s:List Int)(hs:P s):∀(k:Nat) (A B:List (List Int)),k<=n - 1->kf P A->kf P B ->j6 k (A.map g,B.map g) (g s)=((j6 k (A,B) s).1.map g,(j6 k (A,B) s).2.map g)/\kf P (j6 k (A,B) s).1/\kf P (j6 k (A,B) s).2
 | 0,A,B,_,hA,hB=>⟨rfl,hA,hB⟩
 | k+1,A,B,hk,hA,hB=>by
  obtain⟨h1,h2,h3⟩:=q46 h s hs k A B (by omega) hA hB;rw[jP,jP,h1,h.com s k hs (by omega)];exact q7k h _ _ _ h2 h3 (h.cl s k hs (by omega))
theorem q48{n:Nat}{P:List Int->Prop}{g:List Int->List Int}(h:q16 n P g)(K now:List (List Int))(hK:kf P K)(hN:kf P now) :yL n (K.map g) (now.map g)=((yL n K now).1.map g,(yL n K now).2.map g)/\kf P (yL n K now).1/\kf P (yL n K now).2:=by
 have key:∀(L A B:List (List Int)),kf P L->kf P A->kf P B->(L.map g).foldl (q5H n) (A.map g,B.map g)=((L.foldl (q5H n) (A,B)).1.map g,(L.foldl (q5H n) (A,B)).2.map g)/\kf P (L.foldl (q5H n) (A,B)).1/\kf P (L.foldl (q5H n) (A,B)).2:=by
  intro L;induction L with
  | nil=>exact λA B _ hA hB=>⟨rfl,hA,hB⟩
  | cons s L ih=>
   intro A B hL hA hB;obtain⟨h1,h2,h3⟩:=q46 h s (hL s (by simp)) (n - 1) A B (qgw _) hA hB;rw[qjr,qje,qje,q78,q78,h1];exact ih _ _ (λt ht=>hL t (by simp[ht])) h2 h3
 exact key now K [] hN hK (λs hs=>by simp at hs)
theorem q6E{n:Nat}{P:List Int->Prop}{g:List Int->List Int}(h:q16 n P g):∀(f:Nat) (K now:List (List Int)),kf P K->kf P now ->lvl n f (K.map g) (now.map g)=(lvl n f K now).map (λL=>L.map g)/\∀L∈lvl n f K now,kf P L
 | 0,K,now,_,hN=>⟨rfl,λL hL=>by rw[qib.1 hL];exact hN⟩
 | f+1,K,now,hK,hN=>by
  obtain⟨h1,h2,h3⟩:=q48 h K now hK hN;unfold lvl;by_cases e:now=[]
  ·subst e;simp only[qln,if_true];exact⟨rfl,λL hL=>by rw[qib.1 hL];exact hN⟩
  ·rw[if_neg e,if_neg (by simpa using e),h1];obtain⟨h4,h5⟩:=q6E h f _ _ h2 h3;refine⟨by rw[h4];rfl,λL hL=>?_⟩;rcases qif.1 hL with h6 | h6
   ·rw[h6];exact hN
   ·exact h5 L h6
def zQ(ps:List Par)(now:List (List Int)):Bool × List Int:=now.foldl (λb s=>if qu ps (pre Par.mx ps ps.length) s=true then(true,if b.1=true/\vN s b.2=false then b.2 else s) else b) (false,[])
def jO(ps:List Par):List (List (List Int))->Int->Option (Int × List Int)
 | [],_=>none
 | L::t,st=>if(zQ ps L).1=true then some (st,(zQ ps L).2) else jO ps t (st+1)
structure OrdOf(l s:List Int):Prop where
 pm:s.Perm l
theorem q2r{s:List Int}{i:Nat}(h:i+1<s.length):(swp s i).Perm s:=by
 induction s generalizing i with
 | nil=>simp at h
 | cons a t ih=>
  cases i with
  | zero=>
   cases t with
   | nil=>simp at h
   | cons b t=>simpa[swp] using List.Perm.swap a b t
  | succ i=>
   have:=ih (i:=i) (by simpa using h);have e:swp (a::t) (i+1)=a::swp t i:=by simp[swp]
   rw[e];exact this.cons a
theorem qci{s r:List Int}{i:Nat}(h:i+1<s.length):swp (s++r) i=swp s i++r:=by
 unfold swp;rw[qhh (by omega),qhh (by omega),qnz _ _ (by omega),qnz _ _ (by simp;omega)]
theorem qch{f:Int->Int}{s:List Int}{i:Nat}(h:i+1<s.length):swp (s.map f) i=(swp s i).map f:=by
 unfold swp;rw[List.map_set,List.map_set,qis,qis,qgB (show i<s.length by omega),qgB h];rfl
theorem q5C{l:List Int}(h5:l.length<=5):q16 l.length (λs=>s.Perm l) qT where
 inj a b ha hb e:=by
  unfold qT at e;exact(List.append_inj e (by rw[ha.length_eq,hb.length_eq])).1
 com a i ha hi:=by
  unfold qT;rw[qci (by rw[ha.length_eq];exact hi),Zg]
 cl a i ha hi:=(q2r (by rw[ha.length_eq];exact hi)).trans ha
theorem Zy{s:List Int}(h:∀x∈s,0<=x):zc (qT s)=s:=by
 unfold zc qT;rw[List.takeWhile_append_of_pos (λx hx=>by have:=h x hx;simp;omega)];cases e:5 - s.length with
 | zero=>simp
 | succ k=>simp[List.replicate_succ]
theorem q8C{ps:List Par}{now:List (List Int)}(h:∀s∈now,∀x∈s,0<=x):jy ps (now.map qT)=zQ ps now:=by
 have key:∀(L:List (List Int)) (b:Bool × List Int),(∀s∈L,∀x∈s,0<=x)->(L.map qT).foldl (λb s=>if qu ps (pre Par.mx ps ps.length) (zc s)=true then(true,if b.1=true/\vN (zc s) b.2=false then b.2 else zc s) else b) b=L.foldl (λb s=>if qu ps (pre Par.mx ps ps.length) s=true then(true,if b.1=true/\vN s b.2=false then b.2 else s) else b) b:=by
  intro L;induction L with
  | nil=>exact λ_ _=>rfl
  | cons s L ih=>
   intro b hL;rw[qjr,qje,qje,Zy (hL s (by simp))];exact ih _ λt ht=>hL t (by simp[ht])
 exact key now _ h
theorem qax(n f:Nat)(K now:List (List Int)):∃t,lvl n f K now=now::t:=by
 cases f with
 | zero=>exact⟨[],rfl⟩
 | succ f=>
  unfold lvl;split
  ·exact⟨[],rfl⟩
  ·exact⟨_,rfl⟩
theorem Jm{ps:List Par}{lim:Int}{l:List Int}(h5:l.length<=5)(hp:POk ps lim l)(hst:∀s:List Int,s.Perm l->okS ps lim (qT s)=true):∀(f:Nat) (K now:List (List Int)) (st:Int),kf (λs=>s.Perm l) K->kf (λs=>s.Perm l) now->now≠[]->(∀L∈lvl l.length f K now,L.length<=1000)->(lvl l.length f K now).getLast?=some [] ->Zw ps lim l.length f (K.map qT) (now.map qT) st=some (jO ps (lvl l.length f K now) st)
 | 0,K,now,st,_,_,hne,_,hl=>by
  simp[lvl] at hl;exact absurd hl hne
 | f+1,K,now,st,hK,hN,hne,hs,hl=>by
  obtain⟨h1,h2,h3⟩:=q48 (q5C h5) K now hK hN;have h0:∀s∈now,∀x∈s,0<=x:=λs hs x hx=>(hp.ok x ((hN s hs).subset hx)).1;have e:lvl l.length (f+1) K now=now::lvl l.length f (yL l.length K now).1 (yL l.length K now).2:=by
   rw[lvl,if_neg hne]
  rw[e] at hs hl ⊢;unfold Zw jO;rw[if_pos ⟨by
   rw[List.all_map];exact qhE.2 λs hs=>hst s (hN s hs),by rw[qk0];exact hs now (by simp)⟩,q8C h0,h1]
  by_cases hb:(zQ ps now).1=true
  ·rw[if_pos hb,if_pos hb]
  ·rw[if_neg hb,if_neg hb];obtain⟨t,ht⟩:=qax l.length f (yL l.length K now).1 (yL l.length K now).2;simp only[qk0];rw[if_pos (hs _ (by rw[ht];simp))];have hl2:(lvl l.length f (yL l.length K now).1 (yL l.length K now).2).getLast?=some []:=by
    rw[ht] at hl ⊢;simpa[List.getLast?_cons_cons] using hl
   by_cases hz:(yL l.length K now).2=[]
   ·rw[if_pos (by rw[hz];rfl),hz];cases f with
    | zero=>rfl
    | succ f=>rfl
   ·rw[if_neg (by simpa using hz)];exact Jm h5 hp hst f _ _ _ h2 h3 hz (λL hL=>hs L (by simp[hL])) hl2
def qaA(n:Nat):List (List (List Int)):=lvl n 20 [zo n] [zo n]
def qdF(n:Nat):Bool:=(qaA n).getLast? == some [] && (qaA n).all (λL=>decide (L.length<=100)) && decide ((qaA n).length<=20) && (kX (zo n)).all λs=>(qaA n).any λL=>L.contains s
theorem qaz:∀n,n<=5->qdF n=true
 | 0,_=>by kernel_rfl
 | 1,_=>by kernel_rfl
 | 2,_=>by kernel_rfl
 | 3,_=>by kernel_rfl
 | 4,_=>by kernel_rfl
 | 5,_=>by kernel_rfl
 | n+6,h=>by omega
theorem q30:∀(m:Nat) (A:List Int) (x:Int) (R:List Int),A.length=m->A.Pairwise (·<·)->x∉A->∃S,vD m (A++x::R)=S++R/\S.Perm (x::A)/\S.Pairwise (·<·)
 | 0,A,x,R,h,_,_=>by
  obtain rfl:=qhv h;exact⟨[x],rfl,.refl _,by simp⟩
 | m+1,A,x,R,h,hp,hx=>by
  obtain⟨A',y,rfl⟩:∃A' y,A=A'++[y]:=⟨A.dropLast,A.getLast (by intro e;rw[e] at h;cases h),(List.dropLast_concat_getLast _).symm⟩;have hl:A'.length=m:=by simpa using h
  rw[qmo] at hp;obtain⟨p1,-,p3⟩:=hp;simp at p3 hx;have e1:((A'++[y])++x::R)[m+1]?=some x:=by rw[qid (by simp;omega)];simp[hl]
  have e2:((A'++[y])++x::R)[m]?=some y:=by rw[qhh (by simp;omega),qid (by omega)];simp[hl]
  unfold vD;rw[e1,e2];simp only[qgD];by_cases hlt:x<y
  ·rw[if_pos hlt];have e3:(((A'++[y])++x::R).set (m+1) y).set m x=A'++x::(y::R):=by
    subst hl;simp
   obtain⟨S,h1,h2,h3⟩:=q30 m A' x (y::R) hl p1 hx.1;refine⟨S++[y],by rw[e3,h1];simp,?_,?_⟩
   ·exact(h2.append_right [y])
   ·refine qmo.2 ⟨h3,by simp,λa ha b hb=>?_⟩;rw[qib.1 hb];rcases qif.1 (h2.subset ha) with h4 | h4
    ·rw[h4];exact hlt
    ·exact p3 a h4
  ·rw[if_neg hlt];have a6:y<x:=by have:=hx.2;omega
   refine⟨A'++[y]++[x],by simp,(qmd).trans (.refl _),?_⟩;refine qmo.2 ⟨qmo.2 ⟨p1,by simp,by simpa using p3⟩,by simp,λa ha b hb=>?_⟩;rw[qib.1 hb];rcases qiF.1 ha with h4 | h4
   ·have:=p3 a h4;omega
   ·rw[qib.1 h4];exact a6
theorem q3A{l:List Int}(hn:l.Nodup):∀k,k<=l.length->∃S,zM k l=S++l.drop k/\S.Perm (l.take k)/\S.Pairwise (·<·)
 | 0,_=>⟨[],rfl,by simp,by simp⟩
 | k+1,hk=>by
  obtain⟨S,h1,h2,h3⟩:=q3A hn k (by omega);have hx:l[k]∉S:=λh=>by
   have:=h2.subset h;obtain⟨i,hi,e⟩:=List.mem_take_iff_getElem.1 this;have:=(qqp (i:=i) (j:=k) (h₀:=by omega) (h₁:=by omega) hn).1 e;omega
  obtain⟨S',h4,h5,h6⟩:=q30 k S l[k] (l.drop (k+1)) (by rw[h2.length_eq];simp;omega) h3 hx;refine⟨S',by rw[yK,h1,qj7 (by omega)];exact h4,?_,h6⟩;rw[qi7,qgB (by omega)];exact h5.trans ((h2.cons _).trans (qmd (l₁:=[l[k]])))
theorem q5t{l:List Int}(hn:l.Nodup):(zM l.length l).Perm l/\(zM l.length l).Pairwise (·<·):=by
 obtain⟨S,h1,h2,h3⟩:=q3A hn l.length (qgw _);rw[h1,qno,List.append_nil];rw[qiy] at h2;exact⟨h2,h3⟩
def ZA(ws q:List Int):List Int:=ws.filter λx=>!q.contains x
theorem xj{ws q:List Int}(hn:ws.Nodup)(n:Int):ZA ws (q++[n])=(ZA ws q).erase n:=by
 unfold ZA;rw[List.Nodup.erase_eq_filter (List.Pairwise.filter _ hn),List.filter_filter]
 congr 1
 funext x
 by_cases h1:x∈q<;>by_cases h2:x=n<;>simp[h1,h2]
theorem ZX{ws:List Int}(hn:ws.Nodup)(x:List Int):∀(m:Nat) (q:List Int),(ZA ws q).length=m->(x∈qN ws m q↔∃r,x=q++r/\r.Perm (ZA ws q))
 | 0,q,hm=>by
  rw[qhv hm];simp[qN]
 | m+1,q,hm=>by
  unfold qN;rw[qnm];constructor
  ·rintro⟨n,a6,hx⟩;by_cases hq:n∈q
   ·rw[if_pos hq] at hx;cases hx
   ·rw[if_neg hq] at hx;have hf:n∈ZA ws q:=qm3.2 ⟨a6,by simpa using hq⟩;obtain⟨r,rfl,hr⟩:=(ZX hn x m (q++[n]) (by rw[xj hn,qmz hf,hm];rfl)).1 hx;refine⟨n::r,by simp,?_⟩;rw[xj hn] at hr;exact(hr.cons n).trans (qpf hf).symm
  ·rintro⟨r,rfl,hr⟩;cases r with
   | nil=>have:=hr.length_eq;rw[hm] at this;cases this
   | cons n r=>
    have hf:n∈ZA ws q:=hr.subset (by simp);obtain⟨h1,h2⟩:=qm3.1 hf;have hq:n∉q:=by simpa using h2
    refine⟨n,h1,?_⟩;rw[if_neg hq];refine(ZX hn _ m (q++[n]) (by rw[xj hn,qmz hf,hm];rfl)).2 ⟨r,by simp,?_⟩;rw[xj hn];exact(hr.trans (qpf hf)).cons_inv
theorem q3v(ws:List Int):ZA ws []=ws:=by simp[ZA]
theorem Qo{ws x:List Int}(hn:ws.Nodup):x∈qN ws ws.length []↔x.Perm ws:=by
 rw[ZX hn x ws.length [] (by rw[q3v]),q3v];simp
theorem ZW{ws x:List Int}:∀(m:Nat) (q:List Int),x∈qN ws m q->∃r,x=q++r
 | 0,q,h=>⟨[],by simpa[qN] using h⟩
 | m+1,q,h=>by
  unfold qN at h;obtain⟨n,-,hx⟩:=qnm.1 h;split at hx
  ·cases hx
  ·obtain⟨r,rfl⟩:=ZW m _ hx;exact⟨n::r,by simp⟩
theorem qbv(q:List Int){a b:Int}(r s:List Int)(h:a<b):zq (q++[a]++r) (q++[b]++s)<0:=by
 induction q with
 | nil=>
  have e:QA a b<0:=ZJ.2 h;simp only[qhn,qha,zq];rw[if_pos (by omega)];exact e
 | cons c q ih=>
  simp only[qha,zq] at ih ⊢;rw[if_neg (by simp[Qx.2 rfl])];exact ih
theorem q3c{ws:List Int}(hp:ws.Pairwise (·<·)):∀(m:Nat) (q:List Int),(qN ws m q).Pairwise λa b=>zq a b<0
 | 0,q=>by simp[qN]
 | m+1,q=>by
  unfold qN;refine List.pairwise_flatMap.2 ⟨λn _=>?_,hp.imp λ{a b} hab x hx y hy=>?_⟩
  ·split
   ·exact .nil
   ·exact q3c hp m _
  ·split at hx
   ·cases hx
   ·split at hy
    ·cases hy
    ·obtain⟨r,rfl⟩:=ZW m _ hx;obtain⟨s,rfl⟩:=ZW m _ hy;exact qbv q r s hab
theorem YV{P:List Int->Bool}:∀{L:List (List Int)},L.Pairwise (λa b=>zq a b<0)->∀{x:List Int},x∈L->P x=true->∃p,L.find? P=some p/\¬ zq x p<0
 | [],_,_,h,_=>by cases h
 | a::L,hp,x,hx,hP=>by
  obtain⟨h1,h2⟩:=List.pairwise_cons.1 hp;rw[List.find?_cons];cases ha:P a with
  | true=>
   refine⟨a,rfl,λhlt=>?_⟩;rcases qif.1 hx with e | e
   ·rw[e,J8] at hlt;omega
   ·have:=Ka hlt (h1 x e);rw[J8] at this;omega
  | false=>
   rcases qif.1 hx with e | e
   ·rw[e,ha] at hP;cases hP
   ·exact YV h2 e hP
theorem q4p(ps:List Par)(L:List (List Int)):((zQ ps L).1=true->(zQ ps L).2∈L/\qu ps (pre Par.mx ps ps.length) (zQ ps L).2=true)/\((zQ ps L).1=false->∀s∈L,qu ps (pre Par.mx ps ps.length) s=false):=by
 have key:∀(L:List (List Int)) (S:List (List Int)) (b:Bool × List Int),((b.1=true->b.2∈S/\qu ps (pre Par.mx ps ps.length) b.2=true)/\(b.1=false->∀s∈S,qu ps (pre Par.mx ps ps.length) s=false)) ->
   ∀c,c=L.foldl (λb s=>if qu ps (pre Par.mx ps ps.length) s=true then(true,if b.1=true/\vN s b.2=false then b.2 else s) else b) b->((c.1=true->c.2∈S++L/\qu ps (pre Par.mx ps ps.length) c.2=true)/\(c.1=false->∀s∈S++L,qu ps (pre Par.mx ps ps.length) s=false)):=by
  intro L;induction L with
  | nil=>intro S b h c hc;subst hc;simpa using h
  | cons s L ih=>
   intro S b h c hc;have:=ih (S++[s]) (if qu ps (pre Par.mx ps ps.length) s=true then(true,if b.1=true/\vN s b.2=false then b.2 else s) else b) (by
    by_cases hs:qu ps (pre Par.mx ps ps.length) s=true
    ·rw[if_pos hs];refine⟨λ_=>?_,λe=>by cases e⟩;simp only;split
     ·rename_i h2
      have:=h.1 h2.1;exact⟨by simp[this.1],this.2⟩
     ·exact⟨by simp,hs⟩
    ·rw[if_neg hs];refine⟨λe=>⟨by simp[(h.1 e).1],(h.1 e).2⟩,λe t ht=>?_⟩;rcases qiF.1 ht with h3 | h3
     ·exact h.2 e t h3
     ·rw[qib.1 h3];simpa using hs) c (by simpa using hc)
   simpa using this
 exact key L [] (false,[]) ⟨(λe=>by cases e),(λ_ s hs=>by cases hs)⟩ (zQ ps L) rfl
theorem YW{ps:List Par}{k:Int}{b:List Int}:∀{Ls:List (List (List Int))} {st:Int},jO ps Ls st=some (k,b)->∃L∈Ls,(zQ ps L).1=true/\b=(zQ ps L).2
 | [],_,h=>by cases h
 | L::t,st,h=>by
  unfold jO at h;split at h
  ·rename_i h1
   cases h;exact⟨L,by simp,h1,rfl⟩
  ·obtain⟨L',h1,h2⟩:=YW h;exact⟨L',by simp[h1],h2⟩
theorem YX{ps:List Par}:∀{Ls:List (List (List Int))} {st:Int},jO ps Ls st=none->∀L∈Ls,(zQ ps L).1=false
 | [],_,_,L,h=>by cases h
 | L::t,st,h,L',hL=>by
  unfold jO at h;split at h
  ·cases h
  ·rename_i h1
   rcases qif.1 hL with e | e
   ·rw[e];simpa using h1
   ·exact YX h L' e
structure qe9(ps:List Par)(lim:Int)(l ws:List Int)(Ls:List (List (List Int))):Prop where
 mem:∀L∈Ls,∀s∈L,s.Perm l
 len:∀L∈Ls,L.length<=100
 many:Ls.length<=20
 end':Ls.getLast?=some []
 mend:Zw ps lim l.length 20 [qT l] [qT l] 0=some (jO ps Ls 0)
 yes:∀k b,jO ps Ls 0=some (k,b)->∃p,(qN ws ws.length []).find? (j5 ps lim)=some p/\¬ zq b p<0/\p.Perm l/\b.Perm l
 no:jO ps Ls 0=none->(qN ws ws.length []).find? (j5 ps lim)=none
def atL(l:List Int)(i:Int):Int:=l[i.toNat]?.getD 0
theorem q6v(l:List Int):(zo l.length).map (atL l)=l:=by
 apply qlm;intro i;unfold zo;simp only[qis];by_cases h:i<l.length
 ·rw[qlt h];simp[atL,h]
 ·rw[qi5 (by simpa using h),qi5 (by omega)];rfl
theorem qam{n:Nat}{x:Int}:x∈zo n↔0<=x/\x<n:=by
 unfold zo;rw[qkn];constructor
 ·rintro⟨a,h,rfl⟩;have:=qj3.1 h;omega
 ·exact λh=>⟨x.toNat,qj3.2 (by omega),by omega⟩
theorem qd4{l:List Int}(hn:l.Nodup):q16 l.length (λs=>s.Perm (zo l.length)) (λs=>s.map (atL l)) where
 inj a b ha hb e:=by
  have hm:∀x,x∈a\/x∈b->0<=x/\x<l.length:=λx h=>qam.1 (h.elim (λh=>ha.subset h) (λh=>hb.subset h));have hl:a.length=b.length:=by rw[ha.length_eq,hb.length_eq]
  apply List.ext_getElem hl;intro i h1 h2;have h3:=congrArg (λt=>t[i]?) e;simp only[qis,qgB h1,qgB h2,qij,qht] at h3;have m1:=hm a[i] (.inl (qly h1));have m2:=hm b[i] (.inr (qly h2));unfold atL at h3;rw[qgB (show a[i].toNat<l.length by omega),qgB (show b[i].toNat<l.length by omega)] at h3;simp only[qgD] at h3;have:=(qqp hn).1 h3;omega
 com a i ha hi:=qch (by rw[ha.length_eq,zk];exact hi)
 cl a i ha hi:=(q2r (by rw[ha.length_eq,zk];exact hi)).trans ha
theorem q7G{l x:List Int}(hn:l.Nodup)(h:x.Perm l):∃s:List Int,s.Perm (zo l.length)/\s.map (atL l)=x:=by
 refine⟨x.map λy=>(l.idxOf y:Nat),?_,?_⟩
 ·refine(h.map _).trans (List.Perm.of_eq ?_);apply qlm;intro i;unfold zo;simp only[qis];by_cases hi:i<l.length
  ·rw[qlt hi,qgB hi];simp[hn.idxOf_getElem]
  ·rw[qi5 (show l.length<=i by omega),qi5 (show(qhl l.length).length<=i by simpa using hi)];rfl
 ·rw[List.map_map];refine(List.map_congr_left λy hy=>?_).trans (List.map_id _);have a6:=h.subset hy;have hi:=List.idxOf_lt_length_of_mem a6;simp[atL,qgB hi]
theorem qau{ps:List Par}{lim:Int}{l ws:List Int}(h5:l.length<=5)(hp:POk ps lim l)(hw:ws.Perm l)(hs:ws.Pairwise (·<·)):qe9 ps lim l ws (lvl l.length 20 [l] [l]):=by
 have hk:=qaz l.length h5;unfold qdF at hk;simp only[qh9,beq_iff_eq,qhE,decide_eq_true_eq,List.any_eq_true] at hk;obtain⟨⟨⟨k1,k2⟩,k3⟩,k4⟩:=hk;have c8:(zo l.length).Nodup:=List.pairwise_map.2 (List.nodup_range.imp λ{a b} h e=>h (by omega));have a9:kf (λs=>s.Perm (zo l.length)) [zo l.length]:=λs hs=>by rw[qib.1 hs]
 obtain⟨m1,m2⟩:=q6E (qd4 hp.nd) 20 [zo l.length] [zo l.length] a9 a9;rw[show[zo l.length].map (λs=>s.map (atL l))=[l] by rw[qjr,q6v];rfl] at m1;have b0:∀L∈lvl l.length 20 [l] [l],∀s∈L,s.Perm l:=λL hL s hs=>by
  rw[m1] at hL;obtain⟨L',h1,rfl⟩:=qkn.1 hL;obtain⟨s',h2,rfl⟩:=qkn.1 hs;have:=(m2 L' h1 s' h2).map (atL l)
  rwa [q6v] at this
 have b6:∀L∈lvl l.length 20 [l] [l],L.length<=100:=λL hL=>by
  rw[m1] at hL;obtain⟨L',h1,rfl⟩:=qkn.1 hL;rw[qk0];exact k2 L' h1
 have a7:(lvl l.length 20 [l] [l]).getLast?=some []:=by
  rw[m1,List.getLast?_map];show((qaA l.length).getLast?).map _=_;rw[k1];rfl
 have h0:∀s:List Int,s.Perm l->∀x∈s,0<=x:=λs hs x hx=>(hp.ok x (hs.subset hx)).1;have b7:ws.Nodup:=hw.nodup_iff.2 hp.nd;have a8:∀s:List Int,s.Perm l->j5 ps lim s=qu ps (pre Par.mx ps ps.length) s:=λs hs=>by
  unfold j5;rw[QT ps hs,decide_eq_true hp.tall,qm9]
 have a6:kf (λs=>s.Perm l) [l]:=λs hs=>by rw[qib.1 hs]
 refine⟨b0,b6,by rw[m1,qk0];exact k3,a7,?_,λk b hf=>?_,λhf=>?_⟩
 ·refine Jm h5 hp (λs hs=>?_) 20 [l] [l] 0 a6 a6 (by simp) (λL hL=>by have:=b6 L hL;omega) a7;have hl:=hs.length_eq;unfold okS;rw[Zy (h0 s hs),decide_eq_true (vT (by omega)),decide_eq_true (hs.nodup_iff.2 hp.nd),decide_eq_true (show qK ps s<=lim by rw[QT ps hs];exact hp.tall)];simp only[qm9,Bool.and_true,qhE,decide_eq_true_eq];exact λx hx=>hp.ok x (hs.subset hx)
 ·obtain⟨L,hL,hb1,rfl⟩:=YW hf;obtain⟨d5,c9⟩:=(q4p ps L).1 hb1;have b8:=b0 L hL _ d5;obtain⟨p,q1,q2⟩:=YV (P:=j5 ps lim) (q3c hs ws.length []) ((Qo b7).2 (b8.trans hw.symm)) (by rw[a8 _ b8];exact c9);exact⟨p,q1,q2,((Qo b7).1 (List.mem_of_find?_eq_some q1)).trans hw,b8⟩
 ·refine qlG.2 λx hx=>?_;have hxl:=((Qo b7).1 hx).trans hw;rw[a8 x hxl];obtain⟨s,c3,rfl⟩:=q7G hp.nd hxl;obtain⟨L,hL,b9⟩:=k4 s (by
   show s∈qN (zo l.length) (zo l.length).length [];exact(Qo c8).2 c3)
  have hL2:L.map (λs=>s.map (atL l))∈lvl l.length 20 [l] [l]:=by rw[m1];exact qo0 hL
  have:=(q4p ps _).2 (YX hf _ hL2) (s.map (atL l)) (qo0 (by simpa using b9));rw[this];simp
end
section
open Go Go.RowKit
theorem qb1(lo hi:Nat)(v:qgx)(l:List Int)(w:qgt)(hI:qe lo hi w v l)(hhi:hi<=w.heap.size)(hl:l.length<=1000) :qhx Ya 28 #[v] w λe w'=>∃v',e=.returned v'/\w.grownBy w' none/\w'.ownsRow w.heap.size 3 1 v' l.length (l.map (qhe .i64)):=by
 obtain⟨i0,b7,b6,b0,a9⟩:=qjy Tp.info3p;obtain⟨base,cap,rfl,b8,hc⟩:=hI;rcases base with _ | ad
 ·obtain rfl:l=[]:=qin λh=>by obtain⟨_,_,_,_,e,_⟩:=hc h;cases e
  clear hc;go_enter Tp.x28,Tryz.ntmps28;go_wp2;go_ret;exact⟨_,rfl,qgs _ _ none,rfl,.inr ⟨_,0,#[],rfl,qgw _,qgC _ _,qgw _,by decide,rfl,rfl⟩⟩
 ·have hn:∀j u,(l.map (qhe .i64))[j]?=some u->(w.alloc (.cells #[] 3)).cell? (ad.add j)=some u:=λj u hu=>by
   rw[qis] at hu;cases hj:l[j]? with
   | none=>rw[hj] at hu;cases hu
   | some x=>
    rw[hj] at hu;cases hu;have a8:=(qh0.1 hj).1;obtain⟨B,o,cs,fr,e,h1,h2,h3,h4⟩:=hc (by rintro rfl;simp at a8);cases e;have:=h4 j a8;rw[hj] at this;exact kH (q9 (qr h3) this)
  have HN:=qgr hn;clear hc hn;go_enter Tp.x28,Tryz.ntmps28;go_wp2_with (first
   | (at_builtin;go_must (refine wpList_append_own _ rfl _ _ 29 rfl w.heap.size 3 i0 _ 1 8 Tp.und29' b7 b6 b0 a9 rfl (by decide) (.slice (some ⟨w.heap.size,0,none⟩) 0 0) 0 [] rfl ⟨rfl,.inr ⟨_,0,#[],rfl,qgw _,qgC _ _,qgw _,by decide,rfl,rfl⟩⟩ ad l.length cap (l.map (qhe .i64)) rfl (by simp) HN.out (by intro u hu;simp at hu;obtain⟨x,_,rfl⟩:=hu;rfl) (by unfold qky;omega) (by omega) (by simp) ?_);intro v' w7 a6 a7 _;have HO:=qgr a6;have HG:=qgr a7;clear a6 a7))
  go_ret;refine⟨_,rfl,(qgs _ _ none).andThen HG.out (λj e=>.inl ?_),by simpa using HO.out⟩;simp[qhp] at e;omega
end
section
open Go.RowKit

end
end Go.Proofs.YtidgnkmjgioapaaGreat
