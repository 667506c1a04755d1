/-
  Part 5 of the proof. PileWeigh answers true for every list and keeps it. No conditions.
-/
import Derived.Test.YtidgnkmjgioapaaGreatJ1
import Derived.Conc.AtomicLaws2
import Derived.StillTailTactics
set_option maxRecDepth 100000
set_option maxHeartbeats 8000000
set_option linter.all false
open And renaming intro->qgw
open Array renaming eq_empty_of_size_eq_zero->qlj,getD_eq_getD_getElem?->qhz,getElem?_append->qk1,getElem?_append_left->qm1,getElem?_eq_getElem->qgC,getElem?_eq_some_iff->qg8,getElem?_push->qkt,getElem?_replicate->qlb,getElem?_setIfInBounds->qh5,getElem?_setIfInBounds_ne->qhv,getElem_append->qox,mem_append->qjA,mem_of_getElem?->qi5,range->qkn,replicate->qhk,replicate_succ->qhl,replicate_zero->qhm
open Bool renaming and_eq_true->qgv,and_eq_true_iff->qow,false_eq_true->qh2,not_eq_true'->qj0,not_false->qli
open Classical renaming byContradiction->qhG
open Go renaming Addr->qho,Calls->qhf,Code->qiw,Deferred->qig,Event->qhF,Frame->qgm,FuncId->qhs,block_lt_of_cell->qoF,Goroutine->qgc,Item->qkl,MapEntry->qk3,Oper->qi6,Operand->qhh,Program->qgl,Question->qih,TypeId->qgt,TypeInfo->ql2,Value->qgb,World->qg7,bodyPost_ret->qji,callDeferred->qik,doReturn->qio,execOp->qjt,goexitEntry->qov,grownBy_putObj'->qk7,grownCap->qkr,heap_alloc_new->qgg,heap_setCell_other->qka,heap_setCell_same->qnz,info_parts->qiv,madeCells->qjE,maxLen->qk9,results->qjo,stepG->qhp,tryRecover->qgE,undef->qgd,unwind->qkH,wpAny_done->qoe,wpAny_ready->qk0,wpAny_take->qjy,wpList_append_own->qke,yielded->qj7
open Go.AllReady renaming cons->qir,nil->qjs
open Go.Builtin renaming append_->ql0,clear_->qmu,min_->qni,zeroCells->qiz
open Go.Calls renaming quiet_of_same->qii
open Go.Conc renaming base->qgA,baseD->qi0,dcall->qqi,Goes->qlA,QuitsD->qnq,events_results_tmp->qmk,run_call_body->qlx,stepG_add_atomic->qkB,stepG_block->qmp,stepG_load_atomic->ql4,stepG_region_end->qgf,stepG_seq->qgs,stepG_skip->qhD
open Go.Conc.Goes renaming stop->qip
open Go.ConcN renaming WgLive->qjg
open Go.ConcR renaming DC0->qmy
open Go.Frame renaming catches->qnC,enter->qh8,finish_at->qiA
open Go.GStep renaming after->qht
open Go.Instr renaming makeMap->qnB,mapUpdate->qi9
open Go.IntKind renaming wrap_i64->qm9
open Go.IntWalk renaming i64_in->qgH
open Go.Lib renaming hid->qg4
open Go.MemAct renaming ofEvent->qi3,touch?->qiy
open Go.Proofs.Tryz renaming f136->qn0,f139->qkC,f141->qn2,f142->qms,f143->qnl,f54->qmb,f82->qot,f85->qkj,func139->qod,func141->qps,func142->qmD,prog->qgr,results54->qqa,t4->qpu
open Go.Region renaming binds->qhq,ready->qgu,wanted->qhi
open Go.Result renaming andThen->qlH,andThen_ok->qi8
open Go.RowKit renaming intOf->qhj
open Go.Sem renaming run->qhw,run_bind->qi7,run_pure->qmA
open Go.Value renaming int->qgy,oneCell'->qid,ownBlock->qh3,slice->qh7
open Go.World renaming cell?->qh6,frozen?->qk4,grownBy_alloc->qg6,news_of_block->qhx,putObj_heap_same->qlq,setCell->qix,size_alloc->qgk
open Go.World.grownBy renaming refl->qgn
open List renaming all_eq_true->qh9,append_assoc->qie,cons_append->qgD,count_cons->qoj,drop_succ_cons->qhE,drop_zero->qiu,eq_nil_of_length_eq_zero->qhC,filter_append->qls,getElem?_eq_getElem->qge,getElem?_eq_none->qic,getElem?_eq_some_iff->qgo,getElem?_map->qj1,getElem?_take->qlp,getElem?_take_of_lt->qj3,getElem_mem->qm8,length_append->qhe,length_cons->qgq,length_filter_le->qj4,length_map->qjb,length_nil->qgx,length_pos_iff->qkg,length_take->qiE,map_append->qij,map_cons->qkm,mem_append->qiD,mem_cons->qhH,mem_flatMap->qkd,mem_map->qjr,mem_of_getElem?->qgj,mem_range->qi4,mem_singleton->qj2,mem_toArray->qjC,nil_append->qhb,not_mem_nil->qif,push_toArray->qhA,range->qgB,setIfInBounds_toArray->qnv,size_toArray->qgF,take_add_one->qhd,take_length->qha
open List.range renaming loop->qhg
open Nat renaming le_of_eq->qj6,le_refl->qg9,le_trans->qgi,lt_of_lt_of_le->qgp,lt_or_ge->qia,pow_le_pow_right->ql8,reduceAdd->qgG,reduceSub->qil,zero_add->qgz,zero_le->qh1
open Option renaming bind_eq_some_iff->qhr,getD_some->qgh,map_some->qi1,mem_toList->qpt
open Option.some renaming injEq->qhc
namespace Go.Proofs.YtidgnkmjgioapaaGreat
section
open Go Go.RowKit Go.Co
theorem qar{w w':qg7}(h:w.grownBy w' none)(r:Option Nat):w.grownBy w' r:=⟨h.os,h.tape,h.output,h.size,λk hk _=>h.block k hk (by simp)⟩
def MJ(ps:List Par)(lim:Int)(w0:qg7)(pb:Option qho)(n pc f0:Nat)(pv:qgb)(o:Option (Int × List Int))(a:Act)(w:qg7):Prop :=
 ∃(z:Array qgb) (Yb M st f:Nat) (K now:List (List Int)) (nb:Option qho) (nc:Nat),a=⟨z,[]⟩/\z.size=123/\z[1]?=some (.slice pb n pc)/\z[7]?=some (.pointer (some ⟨Yb,0,none⟩))/\z[9]?=some (.map (some M))/\z[10]?=some (.slice nb now.length nc)/\z[11]?=some (.slice none 0 0)/\z[12]?=some (.int .i64 st) /\
  st+f=f0/\q0m ps lim n f K now st=some o/\zM w M K/\w0.heap.size<=M/\jl w (.slice nb now.length nc) now/\w0.grownBy w none/\w.heap[Yb]?=some (.cells #[pv,.int .i64 lim] 91 (0,0))/\qr 0 w0.heap.size w pv ps
def qds(o:Option (Int × List Int))(z:Array qgb)(w:qg7):Prop :=
 match o with
 | some (st,r)=>∃v,z[4]?=some (.int .i64 st)/\z[5]?=some v/\z[6]?=some (.int .i64 0)/\qe 0 w.heap.size w v r
 | none=>z[4]?=some (.int .i64 0)/\z[5]?=some (.slice none 0 0)/\z[6]?=some (.int .i64 11)
theorem Kw{w:qg7}{M:Nat}{es:Array qk3}{cl:Nat}(ty:qgt)(h:w.heap[M]?=some (.map es cl)):(qmu #[120] ty #[.map (some M)]).run Tp.prog w=.ok (.tuple #[]) (w.putObj M (.map #[] cl)):=by
 simp[qmu,qi7,run_underlying Tp.und120,getObj,setObj,qhw,h,qlH,World.putObj]
def qc1(a:Act):Int:=qhj (a.tmps.getD 12 qgd)
theorem qdj(ps:List Par)(lim:Int)(w0 w:qg7)(pb:Option qho)(n pc f0:Nat)(pv:qgb)(o:Option (Int × List Int))(a:Act)(Q:Exit->Act->qg7->Prop)(hJ:MJ ps lim w0 pb n pc f0 pv o a w)(hok:YOk ps lim)(hn:n<=5)(hf:f0<=1000)(hQ:∀(z':Array qgb) w',z'.size=123->qds o z' w'->w0.grownBy w' none->Q .ret ⟨z',[]⟩ w') :mX8.wp Tp.prog (Exit.jump 0 (λa' w'=>MJ ps lim w0 pb n pc f0 pv o a' w'/\(f0 - qc1 a').toNat<(f0 - qc1 a).toNat) Q) a w:=by
 obtain⟨z,Yb,M,st,f,K,now,nb,nc,rfl,hz,h1,h7,h9,k6,k5,k0,hst,hm,hM,a8,hN,hG,hY,hP⟩:=hJ;obtain⟨t,ht,rfl⟩:=Za z hz;have e1:=ht 1 _ h1;have e7:=ht 7 _ h7;have e9:=ht 9 _ h9;have l5:=ht 10 _ k6;have l4:=ht 11 _ k5;have k8:=ht 12 _ k0;clear ht h1 h7 h9 k6 k5 k0 hz;obtain⟨yb,yc,rfl,n7,-⟩:=hP.cell;rw[e1,e7,e9,l5,l4,k8];clear e1 e7 e9 l5 l4 k8;cases f with
 | zero=>cases hm
 | succ f=>
  unfold q0m at hm;split at hm
  ·rename_i a7
   obtain⟨a7,hl⟩:=a7;have a9:=qg4 a7;have HQ:=qg4 hQ;have d7:=qg4 hm;have HM:=qg4 hM;have HN:=qg4 hN;have HG:=qg4 hG;have HY:=qg4 hY;have HP:=qg4 hP;have m3:M<w.heap.size:=by obtain⟨es,cl,e,-⟩:=hM;exact qz e
   clear hQ hm hM hN hG hY hP a7;simp only[mX8,qmb,qgh,sqA,sqB,inn];have n9:∀(a:qho) (fn:Fn) (x y:Array qgb) (m:Mode) (w:qg7),(store a (.func fn x y) m).run Tp.prog w=stored Tp.prog w a (.func fn x y) m:=λa fn x y m w=>run_store _ w a _ m rfl;go_upto_region 10 with(fail);obtain⟨Lb,d6⟩:∃Lb,Lb=w.heap.size:=⟨_,rfl⟩;rw[<- d6];have d8:=qg6 w (.cells #[.func (.func 99) #[] #[],.slice none 0 0,.bool false] 108) none;have p5:=qg4 d8;refine xG (λu=>(w.grownBy u none/\u.heap[Lb]?=some (.cells #[.func (.func 99) #[] #[],.slice none 0 0,.bool false] 108 (0,0)))) ⟨d8,by rw[d6];exact qgg _ _⟩ (λu hF=>?_);obtain⟨g1,b1⟩:=hF;have G1:=qg4 g1;have B1:=qg4 b1;have m7:=qg4 d6;have p4:M<Lb:=by omega
   have e8:w0.heap.size<=Lb:=by have:=HG.out.size;omega
   clear g1 b1 d8 d6;go_upto_region 17 with(fail);refine Code.wp_mono (yd (R:=λa u2=>∃(z':Array qgb) (bv:qgb),a=⟨z',[]⟩/\z'.size=123/\z'[1]?=some (.slice pb n pc)/\z'[7]?=some (.pointer (some ⟨Yb,0,none⟩))/\z'[9]?=some (.map (some M))/\z'[10]?=some (.slice nb now.length nc)/\z'[11]?=some (.slice none 0 0)/\z'[12]?=some (.int .i64 st)/\z'[13]?=some (.pointer (some ⟨Lb,0,none⟩)) /\
    u.grownBy u2 (some Lb)/\u2.heap[Lb]?=some (.cells #[.func (.func 99) #[] #[],bv,.bool (jB ps now).1] 108 (0,0))/\qe 0 u2.heap.size u2 bv (jB ps now).2) ?_) ?_
   rotate_left
   ·refine xn (c':=mLA) (by simp only[mLA,q3c,mX8,qmb,qgh,sqA,sqB,inn]) ?_;refine qfh _ rfl u _ Yb Lb ps lim (.slice yb ps.length yc) now nb nc rfl rfl rfl rfl rfl rfl (blk G1.out (by simp) HY.out) ((HP.out.kept G1.out (by simp)).mono (qg9 _) e8) B1.out hok (HN.out.keptM (M:=M) (qar G1.out _) (λcs fr=>HM.out.not _ _ _)) a9.out hl ?_;intro z' bv w' b1 b2 b3 b4 b5;exact⟨z',bv,rfl,b1,b2 1 (by decide),b2 7 (by decide),b2 9 (by decide),b2 10 (by decide),b2 11 (by decide),b2 12 (by decide),b2 13 (by decide),b3,b4,b5⟩
   ·rintro a u2 ⟨z',bv,rfl,c8,k1,k7,k9,e4,b8,b7,d9,f1,f2,f3⟩;obtain⟨t2,a6,rfl⟩:=Za z' c8;have j1:=a6 1 _ k1;have j7:=a6 7 _ k7;have j9:=a6 9 _ k9;have e6:=a6 10 _ e4;have c3:=a6 11 _ b8;have b9:=a6 12 _ b7;have e5:=a6 13 _ d9;clear a6 k1 k7 k9 e4 b8 b7 d9;rw[j1,j7,j9,e6,c3,b9,e5];clear j1 j7 j9 e6 c3 b9 e5 c8;obtain⟨bb,bc,rfl,-,-⟩:=f3.cell;have g6:w.grownBy u2 none:=xB G1.out f1 (by rw[m7.out];exact qg9 _);have c1:=q8 f2 (o:=1) rfl;have c2:=q8 f2 (o:=2) rfl;have F3:=qg4 f3;have d5:=qg4 g6;have l9:M<u2.heap.size:=by have:=g6.size;omega
    have p3:=qz f2;clear f1 f2 f3;cases hb:(jB ps now).1 with
    | true=>
     rw[if_pos hb] at d7;rw[hb] at c2;clear hb;go_wp2_with (fail);go_quiet (fail);go_wp2;simp only[Exit.jump];have hm:=d7.out;cases hm;exact HQ.out _ _ rfl ⟨_,rfl,rfl,rfl,(F3.out.kept (qi _ _ none) (by simp)).mono (qg9 _) (qg9 _)⟩ ((HG.out.trans d5.out).trans (qi _ _ none))
    | false=>
     rw[if_neg (by rw[hb];simp)] at d7;rw[hb] at c2;clear hb;have h8:zM u2 M K:=HM.out.kept (d5.out.block M m3 (by simp));have g9:jl u2 (.slice nb now.length nc) now:=HN.out.keptM (M:=M) (qar d5.out _) (λcs fr=>HM.out.not _ _ _);have m5:=qg4 h8;have l8:=qg4 g9;clear h8 g9;go_upto_region 33 with(fail);refine Code.wp_mono (yd (R:=λa u3=>∃(z':Array qgb) (nv:qgb),a=⟨z',[]⟩/\z'.size=123/\z'[1]?=some (.slice pb n pc)/\z'[7]?=some (.pointer (some ⟨Yb,0,none⟩))/\z'[9]?=some (.map (some M))/\z'[11]?=some nv/\z'[12]?=some (.int .i64 st) /\
      u2.grownBy u3 (some M)/\zM u3 M (yC (n - 1) K now).1/\u3.ownsRow u2.heap.size 118 5 nv (yC (n - 1) K now).2.length (kF (yC (n - 1) K now).2)) ?_) ?_
     rotate_left
     ·refine xn (c':=mLB) (by simp only[mLB,qac,q3c,mX8,qmb,qgh,sqA,sqB,inn]) ?_;refine qfg _ rfl u2 _ n (n - 1) M st now K pb nb pc nc rfl rfl rfl rfl rfl rfl rfl hn rfl l9 l8.out (λs hs=>(xX (qh9.1 a9.out s hs)).1) hl m5.out (by omega) ?_;intro z' nv w' b1 b2 b3 b4 b5 b6;exact⟨z',nv,rfl,b1,b3 1 (by decide),b3 7 (by decide),b3 9 (by decide),b2,b3 12 (by decide),b4,b5,b6⟩
     ·rintro a u3 ⟨z',nv,rfl,c8,k1,k7,k9,b8,b7,f1,f2,f3⟩;obtain⟨t3,b0,rfl⟩:=Za z' c8;have j1:=b0 1 _ k1;have j7:=b0 7 _ k7;have j9:=b0 9 _ k9;have c3:=b0 11 _ b8;have b9:=b0 12 _ b7;clear b0 k1 k7 k9 b8 b7;rw[j1,j7,j9,c3,b9];clear j1 j7 j9 c3 b9 c8 c1 c2;obtain⟨n6,m9,n3,rfl⟩:=zG f3;have F1:=qg4 f1;have F2:=qg4 f2;have hS:=jl.own f3 (J7 λs hs=>(xX (qh9.1 a9.out s hs)).1);obtain⟨n4,n2,e3,-⟩:=hS;cases e3;have HS:=qg4 (jl.own f3 (J7 λs hs=>(xX (qh9.1 a9.out s hs)).1));have hm:=d7.out;rw[qcC] at hm;have n8:IntKind.i64.wrap ((st:Int)+1)=(st:Int)+1:=qgH _ (by omega);have g7:w0.grownBy u3 none:=xB (HG.out.trans d5.out) F1.out a8;have g8:w.grownBy u3 (some M):=(qar d5.out _).trans F1.out;have l6:=qg4 g7;have l7:=qg4 g8;clear f1 f2 f3 g7 g8;split at hm
      ·rename_i hle
       split at hm
       ·rename_i c9
        cases hm;rw[c9];obtain⟨es,cl,g5,-⟩:=F2.out;have hcl:=Kw 0 g5;clear g5;go_wp2;simp only[Exit.jump];exact HQ.out _ _ rfl ⟨rfl,rfl,rfl⟩ (xB l6.out (qk7 _ _ _) a8)
       ·rename_i c9
        have m8:(0:Int)<((yC (n - 1) K now).2.length:Int):=by
         have:=qkg.2 c9;omega
        have m6:=qg4 hm;clear hm;go_wp2;go_step3;have m4:Yb≠M:=λe=>by rw[e] at HY;exact HM.out.not _ _ _ HY.out
        refine⟨rfl,⟨_,Yb,M,st+1,f,_,_,_,_,rfl,rfl,rfl,rfl,rfl,rfl,rfl,by simp,by omega,by simpa using m6.out,F2.out,a8,HS.out,l6.out,blk l7.out (by simpa using m4) HY.out,HP.out.kept l7.out (λR e=>by cases e;exact .inr a8)⟩,?_⟩;simp[qc1,qhj];omega
      ·cases hm
  ·cases hm
def qdt(w0:qg7)(o:Option (Int × List Int))(e:Ending)(w':qg7):Prop :=
 w0.grownBy w' none/\match o with
 | some (st,r)=>∃v,e=.returned (.tuple #[.int .i64 st,v,.int .i64 0])/\qe 0 w'.heap.size w' v r
 | none=>e=.returned (.tuple #[.int .i64 0,.slice none 0 0,.int .i64 11])
theorem q7C{l:Nat}{J J':Act->qg7->Prop}{Q:Exit->Act->qg7->Prop}(h:∀a w,J a w->J' a w):∀e a w,Exit.jump l J Q e a w->Exit.jump l J' Q e a w:=by
 intro e a w hh;cases e with
 | goto l'=>exact⟨hh.1,h _ _ hh.2⟩
 | _=>exact hh
theorem q3a{w w':qg7}{o:Option (Int × List Int)}{z:Array qgb}(hz:z.size=123)(hR:qds o z w')(hg:w.grownBy w' none):bodyPost Tp.prog qmb (λe w'=>qdt w o e w') .ret ⟨z,[]⟩ w':=by
 obtain⟨t,ht,rfl⟩:=Za z hz;cases o with
 | none=>
  obtain⟨h4,h5,h6⟩:=hR;have e4:=ht 4 _ h4;have e5:=ht 5 _ h5;have e6:=ht 6 _ h6;rw[e4,e5,e6];exact qji (v:=.tuple #[.int .i64 0,.slice none 0 0,.int .i64 11]) (by simp[qjo,qqa,go_sem]) rfl ⟨hg,rfl⟩
 | some p=>
  obtain⟨st,r⟩:=p;obtain⟨v,h4,h5,h6,hi⟩:=hR;have e4:=ht 4 _ h4;have e5:=ht 5 _ h5;have e6:=ht 6 _ h6;rw[e4,e5,e6];exact qji (v:=.tuple #[.int .i64 st,v,.int .i64 0]) (by simp[qjo,qqa,go_sem]) rfl ⟨hg,v,rfl,hi⟩
theorem qcm(pv qv:qgb)(ps:List Par)(lim:Int)(l:List Int)(w:qg7)(hP:qr 0 w.heap.size w pv ps)(hI:qe 0 w.heap.size w qv l)(hok:YOk ps lim)(hp:POk ps lim l)(f0:Nat)(hf:f0<=1000)(o:Option (Int × List Int))(hm:q0m ps lim l.length f0 [zO l] [zO l] 0=some o) :qhf Tp.prog 54 #[.agg #[pv,.int .i64 lim],qv] w λe w'=>qdt w o e w':=by
 obtain⟨yb,yc,rfl,k8,-⟩:=hP.cell;obtain⟨pb,pc,rfl,-,-⟩:=hI.cell;have l5:=hp.len;have HP:=qg4 hP;have HI:=qg4 hI;have d8:=qg4 hok;have k0:=qg4 hp;have HM:=qg4 hm;clear hP hI hok hp hm;go_enter Tp.x54,Tryz.ntmps54;have a6:l.length<=5:=by
  cases f0 with
  | zero=>cases HM.out
  | succ f=>
   have h:=HM.out;unfold q0m at h;split at h
   ·rename_i h1
    have:=(xX (qh9.1 h1.1 (zO l) (by simp))).1;unfold zO at this;rw[qhe] at this;omega
   ·cases h
 go_wp2;refine wp_scope_jumps 0 (MJ ps lim w pb l.length pc f0 (.slice yb ps.length yc) o) (λa _=>(f0 - qc1 a).toNat) rfl ?_ ?_
 ·go_upto_region 4 with(first
   | (go_at_call 81;go_must (refine(vX 0 w.heap.size _ _ ps lim l _ (HP.out.kept (qg6 _ _ none) (by simp)) (HI.out.kept (qg6 _ _ none) (by simp)) (by simp) d8.out k0.out).mono ?_);rintro e w2 ⟨rfl,g7⟩;have g9:=qg4 ((qg6 w (.cells #[.slice yb ps.length yc,.int .i64 lim] 24) none).trans g7);clear g7))
  obtain⟨Yb,c9⟩:∃Yb,Yb=w2.heap.size:=⟨_,rfl⟩;rw[<- c9];refine xG (λu=>w.grownBy u none/\u.heap[Yb]?=some (.cells #[.slice yb ps.length yc,.int .i64 lim] 91 (0,0))) ⟨g9.out.trans (qg6 _ _ none),by rw[c9];exact qgg _ _⟩ (λu hF=>?_);obtain⟨g3,y3⟩:=hF;have G3:=qg4 g3;have Y3:=qg4 y3;clear g3 y3 c9 g9;obtain⟨M,a8⟩:∃M,M=u.heap.size:=⟨_,rfl⟩;have b0:zM (u.alloc (.map #[] 0)) M []:=zM.nil (by rw[a8];exact qgg u (.map #[] 0));have b6:=qg4 b0;have a7:u.grownBy (u.alloc (.map #[] 0)) none:=qg6 _ _ none;have k6:=qg4 a7;have d5:M<(u.alloc (.map #[] 0)).heap.size:=by rw[a8,qgk];omega
  have h5:=QV a6;obtain⟨x0,x1,x2,x3,x4,e4⟩:=q7z h5;have d7:=qg4 e4;have h8:(qnB 120 none).run Tp.prog u=.ok (.map (some M)) (u.alloc (.map #[] 0)):=by rw[a8];rfl
  clear b0 h5 e4;go_upto_region 5 with(first
   | (go_at_call 112;refine(Jh 0 _ _ l _ ((HI.out.kept (G3.out.trans a7) (by simp)).mono (qg9 _) (G3.out.trans a7).size) a6).mono ?_;rintro e w5 ⟨rfl,c3⟩;have d9:=qg4 c3;have e7:=b6.out.kept (c3.block M d5 (by simp));obtain⟨ob,l4,b8,e9⟩:=e7.add (zO l) (QV a6) (by simp) 0;have k5:=qg4 e9;clear e9 c3 e7;rw[d7.out] at b8 ⊢;have e6:(qi9 120 (.map (some u.heap.size)) (.agg #[.int .i64 x0,.int .i64 x1,.int .i64 x2,.int .i64 x3,.int .i64 x4]) (.int .i64 0)).run Tp.prog w5=.ok () (w5.putObj M ob):=a8 ▸ b8;clear b8;unfold A5))
  rw[<- a8];have g5:M<w5.heap.size:=qgp d5 d9.out.size;have e5:w.heap.size<=M:=by have:=G3.out.size;omega
  refine xG (λv=>w.grownBy v none/\v.heap[Yb]?=some (.cells #[.slice yb ps.length yc,.int .i64 lim] 91 (0,0))/\zM v M [zO l]) ⟨xB (G3.out.trans (a7.trans d9.out)) (qk7 _ _ _) e5,blk (qk7 _ _ _) (λe=>by cases e;have:=qz Y3.out;omega) (blk (a7.trans d9.out) (by simp) Y3.out),k5.out _ (qlq g5)⟩ (λu6 hF=>?_);obtain⟨g6,y6,m6⟩:=hF;have G6:=qg4 g6;have Y6:=qg4 y6;have M6:=qg4 m6;have k9:=g6.size;clear g6 y6 m6 e6 h8 b6 a7 k6 d5 g5 a8;go_upto_region 6 with(first
   | (go_at_call 112;refine(Jh 0 _ _ l _ ((HI.out.kept G6.out (by simp)).mono (qg9 _) G6.out.size) a6).mono ?_;rintro e w7 ⟨rfl,e8⟩;have k7:=qg4 e8;clear e8;rw[d7.out];unfold A5))
  have b9:=M6.out;have c8:(w7.alloc (.cells #[.int .i64 x0,.int .i64 x1,.int .i64 x2,.int .i64 x3,.int .i64 x4] 118)).heap[w7.heap.size]?=some (.cells #[.int .i64 x0,.int .i64 x1,.int .i64 x2,.int .i64 x3,.int .i64 x4] 118 (0,0)):=qgg w7 _;have a9:=k7.out.trans (qg6 w7 (.cells #[.int .i64 x0,.int .i64 x1,.int .i64 x2,.int .i64 x3,.int .i64 x4] 118) none);have h9:M<u6.heap.size:=by obtain⟨es,cl,e,-⟩:=b9;exact qz e
  obtain⟨B7,d6⟩:∃B7,B7=w7.heap.size:=⟨_,rfl⟩;rw[<- d6] at c8;rw[<- d6];refine xG (λv=>w.grownBy v none/\v.heap[Yb]?=some (.cells #[.slice yb ps.length yc,.int .i64 lim] 91 (0,0))/\zM v M [zO l]/\jl v (.slice (some ⟨B7,0,none⟩) [zO l].length 1) [zO l]) ⟨G6.out.trans a9,blk a9 (by simp) Y6.out,b9.kept (a9.block M h9 (by simp)),_,_,rfl,λ_=>⟨B7,0,_,_,rfl,c8,λi s hi d hd=>by
   rcases i with _ | i
   ·simp at hi;subst hi;rw[d7.out];obtain rfl | rfl | rfl | rfl | rfl:d=0\/d=1\/d=2\/d=3\/d=4:=by omega
    all_goals rfl
   ·simp at hi⟩⟩ (λu8 hF=>?_)
  obtain⟨g8,y8,m8,s8⟩:=hF;have G8:=qg4 g8;have Y8:=qg4 y8;have M8:=qg4 m8;have S8:=qg4 s8;clear g8 y8 m8 s8 b9 c8 a9 d6;go_wp2;refine wp_label ?_
  rename_i K hK
  refine hK _ _ ?_;refine xn (c':=mX8) (by simp only[mX8,qmb,qgh,sqB,inn]) ?_;refine Code.wp_mono (q7C λa u h=>h.1) (qdj ps lim w u8 pb l.length pc f0 _ o _ _ ⟨_,Yb,M,0,f0,[zO l],[zO l],_,_,rfl,rfl,rfl,rfl,rfl,rfl,rfl,rfl,by omega,HM.out,M8.out,e5,S8.out,G8.out,Y8.out,HP.out.kept G8.out (by simp)⟩ d8.out a6 hf ?_);exact λz' w' b7 hR hg=>q3a b7 hR hg
 ·rintro a u hJ;refine wp_seq ?_;refine wp_skip ?_;refine xn (c':=mX8) (by simp only[mX8,qmb,qgh,sqB,inn]) ?_;refine qdj ps lim w u pb l.length pc f0 _ o a _ hJ d8.out a6 hf ?_;exact λz' w' b7 hR hg=>q3a b7 hR hg
end
section
open Go.RowKit Go.Co
def kW(lo hi:Nat)(w:qg7)(v:qgb)(n:Nat)(c:Nat->Nat->Int):Prop :=
 ∃base cap,v=.slice base n cap/\(n:Int)<=1000000/\(0<n->∃B o cs ty fr,base=some ⟨B,o,none⟩/\lo<=B/\B<hi/\w.heap[B]?=some (.cells cs ty fr)/\∀i,i<n->∀d,d<5->cs[o+i*5+d]?=some (.int .i64 (c i d)))
def ovr(c g:Nat->Int)(l:List Int)(k:Nat):Nat->Int:=λd=>if(d:Int)∈l.take k then c d else g d
theorem q32(c g:Nat->Int)(l:List Int)(k n:Nat)(h:l[k]?=some (n:Int))(d:Nat):ovr c g l (k+1) d=if d=n then c d else ovr c g l k d:=by
 unfold ovr;rw[qhd,h];by_cases e:d=n
 ·subst e;simp
 ·have:¬ ((d:Int)=n):=by omega
  simp[e,this]
theorem qea(lo hi:Nat)(t:Nat->qgb)(w0 w:qg7)(R:Act->qg7->Prop)(A V:Nat)(av vv:qgb)(N i:Nat)(c:Nat->Nat->Int)(wl:List Int)(B1 B2:Nat)(g h:Nat->Int)(h2:t 2=.pointer (some ⟨A,0,none⟩))(hA:w0.cell? ⟨A,0,none⟩=some av)(hC:kW lo hi w0 av N c)(h5:t 5=.pointer (some ⟨V,0,none⟩))(hV:w0.cell? ⟨V,0,none⟩=some vv)(hI:qe lo hi w0 vv wl)(h7:t 7=.int .i64 i)(l8:i<N)(h8:t 8=.pointer (some ⟨B1,0,none⟩))(h9:t 9=.pointer (some ⟨B2,0,none⟩))(hg:w0.grownBy w none)(a7:w.heap[B1]?=some (qF g))(a6:w.heap[B2]?=some (qF h))(hne:B1≠B2)(hb1:w0.heap.size<=B1)(p3:w0.heap.size<=B2)(hhi:hi<=w0.heap.size)(hx:∀x∈wl,0<=x/\x<5)(hR:∀(l7 l6 l5 l4 k9 k8 k7 k6 k5 k0 g9 g8 g7 g6 g5 e9 e8 e7 e6 e5 e4 d9 d8 d7:qgb) w',w0.grownBy w' none->w'.heap[B1]?=some (qF (ovr (c i) g wl wl.length))->w'.heap[B2]?=some (qF (ovr (c i) h wl wl.length)) ->R ⟨#[t 0,t 1,.pointer (some ⟨A,0,none⟩),t 3,t 4,.pointer (some ⟨V,0,none⟩),t 6,.int .i64 i,.pointer (some ⟨B1,0,none⟩),.pointer (some ⟨B2,0,none⟩),t 10,l7,t 12,t 13,t 14,t 15,t 16,t 17,t 18,t 19,t 20,t 21,t 22,t 23,t 24,l6,l5,l4,k9,k8,k7,k6,k5,k0,g9,g8,g7,g6,g5,e9,e8,e7,e6,e5,e4,d9,d8,d7,t 48,t 49,t 50,t 51,t 52,t 53,t 54,t 55,t 56,t 57,t 58,t 59],[]⟩ w') :wR4.wp Tp.prog (yj R) ⟨#[t 0,t 1,t 2,t 3,t 4,t 5,t 6,t 7,t 8,t 9,t 10,t 11,t 12,t 13,t 14,t 15,t 16,t 17,t 18,t 19,t 20,t 21,t 22,t 23,t 24,t 25,t 26,t 27,t 28,t 29,t 30,t 31,t 32,t 33,t 34,t 35,t 36,t 37,t 38,t 39,t 40,t 41,t 42,t 43,t 44,t 45,t 46,t 47,t 48,t 49,t 50,t 51,t 52,t 53,t 54,t 55,t 56,t 57,t 58,t 59],[]⟩ w:=by
 obtain⟨ab,ac,rfl,hN,c9⟩:=hC;obtain⟨vb,vc,rfl,hq,c8⟩:=hI.cell;obtain⟨AB,ao,p8,p6,p7,rfl,n4,n3,b7,b6⟩:=c9 (by omega);have HR:=qg4 hR;have HI:=qg4 c8;have HX:=qg4 hx;have HA:=qg4 hA;have HV:=qg4 hV;have HC:=qg4 (qgw b7 b6);have m6:=qg4 a7;have m5:=qg4 a6;have HG:=qg4 hg;have p5:A<w0.heap.size:=qoF hA;have p4:V<w0.heap.size:=qoF hV;clear hR hI c8 c9 hx a7 a6 b7 b6;rw[h2,h5,h7,h8,h9];clear h2 h5 h7 h8 h9;simp only[wR4,jH,qkC,qgh,sqA,sqB,inn];have v0:=hg.cell hV (by simp);clear hA hV hg;go_wp2;clear v0;go_loopw [27] (λiv wr=>∃k:Nat,iv=.int .i64 k/\k<=wl.length/\w0.grownBy wr none/\wr.heap[B1]?=some (qF (ovr (c i) g wl k))/\wr.heap[B2]?=some (qF (ovr (c i) h wl k))) (λiv _=>(wl.length - qhj iv).toNat)
 case atStart=>exact⟨0,rfl,by omega,HG.out,by rw[m6.out];first | (congr 1;done) | (congr 1;exact yw λd _=>by simp[ovr]),by rw[m5.out];first | (congr 1;done) | (congr 1;exact yw λd _=>by simp[ovr])⟩
 case round=>
  obtain⟨k,rfl,hk,hG,a7,a6⟩:=hrel;have d6:=qg4 hG;have b9:=qg4 a7;have b8:=qg4 a6;have a0:=hG.cell HA.out (by simp);have v0:=hG.cell HV.out (by simp);have n9:=(qg8.1 a7).1;have n8:=(qg8.1 a6).1;have hsz:=hG.size;by_cases hlt:k<wl.length
  ·obtain⟨VB,vo,rfl,n2,m9,m8,b0⟩:=HI.out (by intro e;rw[e] at hlt;simp at hlt);have x0:=hG.cell (b0 k hlt) (by simp);obtain⟨x,a9⟩:∃x,wl[k]?=some x:=⟨_,qge hlt⟩;obtain⟨n7,n6⟩:=HX.out x (qgj a9);rw[a9] at x0;simp only[qgh] at x0;obtain⟨n,rfl⟩:∃n:Nat,x=n:=⟨x.toNat,by omega⟩;have a8:n<5:=by omega
   have c3:w0.cell? ⟨AB,ao+i*5+n,none⟩=some (.int .i64 (c i n)):=q8 HC.out.1 (HC.out.2 i l8 n a8);have c0:=hG.cell c3 (by simp);have d1:=ql a7 a8;have d2:=ql a6 a8;have f1:=jp a7;have f2:=jp a6;have d5:=qg4 a9;clear b0 a9 hG a7 a6 c3;go_upto_region 7 with(fail);have hin:(i:Int)<(N:Int):=by omega
   have m7:(n:Int)<5:=by omega
   have R1:((wr.setCell ⟨B1,n,none⟩ (.int .i64 (c i n))).setCell ⟨B2,n,none⟩ (.int .i64 (c i n))).heap[B1]?=some (qF (ovr (c i) g wl (k+1))):=by
    refine(blk (qf _ B2 _ _) (by simp;exact hne) (xU b9.out a8)).trans ?_
    congr 1
    exact yw λd _=>by rw[q32 _ _ _ _ n d5.out];split<;>simp_all
   have R2:((wr.setCell ⟨B1,n,none⟩ (.int .i64 (c i n))).setCell ⟨B2,n,none⟩ (.int .i64 (c i n))).heap[B2]?=some (qF (ovr (c i) h wl (k+1))):=by
    refine(xU (blk (qf _ B1 _ _) (by simp;omega) b8.out) a8).trans ?_
    congr 1
    exact yw λd _=>by rw[q32 _ _ _ _ n d5.out];split<;>simp_all
   have RG:w0.grownBy ((wr.setCell ⟨B1,n,none⟩ (.int .i64 (c i n))).setCell ⟨B2,n,none⟩ (.int .i64 (c i n))).drew none :=
    ((d6.out.andThen (row':=some B1) (qf _ _ _ _) (by rintro j e;cases e;exact .inl (by omega))).andThen (row':=some B2) (qf _ _ _ _) (by rintro j e;cases e;exact .inl (by omega))).trans (qc _ _)
   have m4:=qg4 R1;have m3:=qg4 R2;have l9:=qg4 RG;clear R1 R2 RG;go_region_law (fail);all_goals
    clear a0 x0 c0 d1 d2 f1 f2;go_wp2;go_roundw
    case rel=>exact⟨k+1,by simp,by omega,l9.out,m4.out,m3.out⟩
    case measure=>simp[qhj];omega
  ·obtain rfl:k=wl.length:=by omega
   clear hG a7 a6 a0 v0;go_wp2;exact HR.out _ _ _ _ _ _ _ _ _ _ _ _ _ _ _ _ _ _ _ _ _ _ _ _ wr d6.out b9.out b8.out
theorem qe9(lo hi:Nat)(t:Nat->qgb)(w0 w:qg7)(R:Act->qg7->Prop)(Y V:Nat)(yb:Option qho)(yc:Nat)(vv:qgb)(ps:List Par)(lim:Int)(l:List Int)(B1 B2:Nat)(g h:Nat->Int)(h4:t 4=.pointer (some ⟨Y,0,none⟩))(c9:w0.cell? ⟨Y,0,none⟩=some (.slice yb ps.length yc))(c8:w0.cell? ⟨Y,1,none⟩=some (.int .i64 lim))(hP:qr lo hi w0 (.slice yb ps.length yc) ps)(h6:t 6=.pointer (some ⟨V,0,none⟩))(hV:w0.cell? ⟨V,0,none⟩=some vv)(hI:qe lo hi w0 vv l)(h8:t 8=.pointer (some ⟨B1,0,none⟩))(h9:t 9=.pointer (some ⟨B2,0,none⟩))(hg:w0.grownBy w none)(a7:w.heap[B1]?=some (qF g))(d5:w.heap[B2]?=some (qF h))(hhi:hi<=w0.heap.size)(b8:ps.length<=5)(hx:∀x∈l,0<=x/\x<ps.length)(hl:l.length<=1000)(hgb:∀i,0<=g i/\g i<=1000)(b9:∀i,0<=h i/\h i<=1000)(hR:∀(g7 g6 g5 e9 e8 e7 e6 e5 e4 d9:qgb) w',w.grownBy w' none->R ⟨#[t 0,t 1,t 2,t 3,.pointer (some ⟨Y,0,none⟩),t 5,.pointer (some ⟨V,0,none⟩),t 7,.pointer (some ⟨B1,0,none⟩),.pointer (some ⟨B2,0,none⟩),t 10,t 11,t 12,t 13,t 14,t 15,t 16,t 17,t 18,t 19,t 20,t 21,t 22,t 23,t 24,t 25,t 26,t 27,t 28,t 29,t 30,t 31,t 32,t 33,t 34,t 35,t 36,t 37,t 38,t 39,t 40,t 41,t 42,t 43,t 44,t 45,t 46,t 47,g7,g6,g5,e9,e8,e7,e6,e5,e4,d9,.bool (qp ps g l && !qp ps h l),t 59],[]⟩ w') :wR9.wp Tp.prog (yj R) ⟨#[t 0,t 1,t 2,t 3,t 4,t 5,t 6,t 7,t 8,t 9,t 10,t 11,t 12,t 13,t 14,t 15,t 16,t 17,t 18,t 19,t 20,t 21,t 22,t 23,t 24,t 25,t 26,t 27,t 28,t 29,t 30,t 31,t 32,t 33,t 34,t 35,t 36,t 37,t 38,t 39,t 40,t 41,t 42,t 43,t 44,t 45,t 46,t 47,t 48,t 49,t 50,t 51,t 52,t 53,t 54,t 55,t 56,t 57,t 58,t 59],[]⟩ w:=by
 obtain⟨vb,vc,rfl,hq,-⟩:=hI.cell;have HR:=qg4 hR;have HI:=qg4 (hI.kept hg (by simp));have HP:=qg4 (hP.kept hg (by simp));have HX:=qg4 hx;have d7:=qg4 hgb;have k5:=qg4 b9;have a8:=qg4 d5;have y0:=hg.cell c9 (by simp);have y1:=hg.cell c8 (by simp);have v0:=hg.cell hV (by simp);have k6:=hg.size;have a0:=ql a7 (show 0<5 by omega);have a1:=ql a7 (show 1<5 by omega);have a2:=ql a7 (show 2<5 by omega);have a3:=ql a7 (show 3<5 by omega);have a4:=ql a7 (show 4<5 by omega);rw[h4,h6,h8,h9];have SC:=qg4 (qgw y0 (qgw y1 v0));clear hR hI hP hx hgb b9 d5 c9 c8 hV hg h4 h6 h8 h9 a7;simp only[wR9,jH,qkC,qgh,sqA,sqB,inn];obtain⟨s1,b7⟩:∃s1,qp ps g l=s1:=⟨_,rfl⟩;obtain⟨s2,b6⟩:∃s2,qp ps h l=s2:=⟨_,rfl⟩;rw[b7,b6] at HR;have d6:=qg4 b7;have g8:=qg4 b6;clear b7 b6;cases s1
 ·go_wp2_with fail;refine(kw lo hi _ _ ps lim l g _ ⟨_,rfl,HP.out⟩ HI.out (by omega) b8 HX.out hl d7.out).mono ?_;rintro e w5 ⟨rfl,a6⟩;rw[d6.out];have a9:=qg4 a6;clear a6 y0 y1 v0 a0 a1 a2 a3 a4;go_wp2;exact HR.out _ _ _ _ _ _ _ _ _ _ _ a9.out
 ·go_wp2_with fail;refine(kw lo hi _ _ ps lim l g _ ⟨_,rfl,HP.out⟩ HI.out (by omega) b8 HX.out hl d7.out).mono ?_;rintro e w5 ⟨rfl,a6⟩;rw[d6.out];have b0:=ql (blk a6 (by simp) a8.out) (show 0<5 by omega);have b1:=ql (blk a6 (by simp) a8.out) (show 1<5 by omega);have b2:=ql (blk a6 (by simp) a8.out) (show 2<5 by omega);have b3:=ql (blk a6 (by simp) a8.out) (show 3<5 by omega);have b4:=ql (blk a6 (by simp) a8.out) (show 4<5 by omega);have z0:=a6.cell SC.out.1 (by simp);have z1:=a6.cell SC.out.2.1 (by simp);have z2:=a6.cell SC.out.2.2 (by simp);have hz:=a6.size;have g9:=qg4 (HP.out.kept a6 (by simp));have k0:=qg4 (HI.out.kept a6 (by simp));have a9:=qg4 a6;clear a6 y0 y1 v0 a0 a1 a2 a3 a4;go_wp2_with fail;refine(kw lo hi _ _ ps lim l h _ ⟨_,rfl,g9.out⟩ k0.out (by omega) b8 HX.out hl k5.out).mono ?_;rintro e w6 ⟨rfl,c3⟩;rw[g8.out];have d8:=qg4 c3;clear c3 b0 b1 b2 b3 b4 z0 z1 z2;cases s2
  ·go_wp2;exact HR.out _ _ _ _ _ _ _ _ _ _ _ (a9.out.trans d8.out)
  ·go_wp2;exact HR.out _ _ _ _ _ _ _ _ _ _ _ (a9.out.trans d8.out)
end
section
open Go Go.RowKit Go.Conc Go.ConcN Go.ConcN.Gen Go.Conc.Lib Go.ConcR.Gen Go.Co Go.Sim
def qJ:qiw->Array qi6 | .region _ ops _=>ops | _=>#[]
noncomputable def wLB:qiw:=inn (inn (sqB (Tryz.f139.body.getD .skip)))
noncomputable def qci:Array qi6:=qJ (sqA jH)
noncomputable def qa2:Array qi6:=qJ (sqA (sqA (sqB jH)))
noncomputable def Z2:Array qi6:=qJ (sqA (sqB (Tryz.f141.body.getD .skip)))
noncomputable def Z1:Array qi6:=qJ (sqA (sqB (Tryz.f142.body.getD .skip)))
noncomputable def JJ:Array qi6:=qJ (Tryz.f143.body.getD .skip)
noncomputable def ju:List qkl:=[.inLoop wLB,.inBlock 0]
def pt(b:Nat):qgb:=.pointer (some ⟨b,0,none⟩)
noncomputable def f1(tm:Array qgb)(D:List qig):qgm:=(qi0 139).at ⟨tm,D⟩ (.inRegion qci [0,1,2]::.code (sqB jH)::.inBlock 1::ju)
theorem YI(x:Array qgb)(h:x.size=60):∃y0 y1 y2 y3 y4 y5 y6 y7 y8 y9 y10 y11 y12 y13 y14 y15 y16 y17 y18 y19 y20 y21 y22 y23 y24 y25 y26 y27 y28 y29 y30 y31 y32 y33 y34 y35 y36 y37 y38 y39 y40 y41 y42 y43 y44 y45 y46 y47 y48 y49 y50 y51 y52 y53 y54 y55 y56 y57 y58 y59,x=#[y0,y1,y2,y3,y4,y5,y6,y7,y8,y9,y10,y11,y12,y13,y14,y15,y16,y17,y18,y19,y20,y21,y22,y23,y24,y25,y26,y27,y28,y29,y30,y31,y32,y33,y34,y35,y36,y37,y38,y39,y40,y41,y42,y43,y44,y45,y46,y47,y48,y49,y50,y51,y52,y53,y54,y55,y56,y57,y58,y59]:=by
 have e:=xm x;rw[h] at e;exact⟨_,_,_,_,_,_,_,_,_,_,_,_,_,_,_,_,_,_,_,_,_,_,_,_,_,_,_,_,_,_,_,_,_,_,_,_,_,_,_,_,_,_,_,_,_,_,_,_,_,_,_,_,_,_,_,_,_,_,_,_,e.trans rfl⟩
theorem q3x{Fz S:Bs}{A o size:Nat}(h:Fz A)(hs:A<size):EvC Fz S size ⟨.cell ⟨A,o,none⟩,false,Mode.plain == Mode.atomic⟩:=by
 refine⟨⟨by simp,by simp,by simp⟩,λm hm=>by simp at hm,λx hx b hb=>?_⟩;have hx':x=⟨.cell ⟨A,o,none⟩,false,.plain⟩:=by
  have e:(Mode.plain == Mode.atomic)=false:=by decide
  rw[e] at hx;simp[qi3,qiy] at hx;exact hx.symm
 subst hx';simp only[Go.Co.blk,qhc] at hb;subst hb;exact⟨hs,rfl,.inr ⟨h,rfl⟩⟩
noncomputable def c20:qiw:=sqB (sqA (sqB jH))
noncomputable def wX:qiw:=sqB (sqB jH)
noncomputable def f2(tm:Array qgb)(D:List qig):qgm:=(qi0 139).at ⟨tm,D⟩ (.inRegion qa2 [5,6]::.code c20::.code wX::.inBlock 1::ju)
section
variable{Fz:Bs}{K:qg7->qg7->Prop}{Stop:Bs->qgc->qg7->Prop}{S:Bs}(hK:∀a b c,K a b->K b c->K a c)
include hK
theorem qcc{tm:Array qgb}{D:List qig}{real:List qgm}{Nx:Nat}{w:qg7}(h1:tm[1]?.getD qgd=pt Nx)(hstop:∀w₁,RC Fz K S w w₁->Stop S (G ((qgA 141).at ⟨#[pt Nx,.int .i64 1,qgd,qgd,.int .i64 0,pt Nx,pt Nx,pt Nx,.int .i64 1,qgd],[]⟩ [.inRegion Z2 [4,5],.code .ret]) (f1 tm D::real)) w₁) :qk qgr Fz K Stop S (G ((qi0 139).at ⟨tm,D⟩ (.code wLB::ju)) real) w:=by
 simp only[f1,qci,Z2,wLB,jH,ju,qkC,qn2,qgh,sqA,sqB,inn,qJ] at hstop ⊢;refine qk.block hK ?_;refine qk.seq hK ?_;refine qk.region hK ?_;simp only[qgF,qgq,qgx,qgG,qgz,qgB,qhg];refine qk.enter hK rfl rfl (by k_ne) rfl qps (by kernel_rfl) rfl ?_
 walk_nrmf qn2
 rw[h1];simp only[pt] at hstop ⊢;refine qk.seq hK ?_;refine qk.region hK ?_;simp only[qgF,qgq,qgx,qgG,qgz,qgB,qhg];refine qk.value hK (.int .i64 0) rfl rfl (by k_ne) (λ_=>by go_simp) (λ_=>by simp[go_sem]) ?_;walk_nrm;refine qk.region_end hK ?_;refine qk.seq hK ?_;refine qk.region hK ?_;simp only[qgF,qgq,qgx,qgG,qgz,qgB,qhg];refine qk.value hK (.pointer (some ⟨Nx,0,none⟩)) rfl rfl (by k_ne) (λ_=>by go_simp) (λ_=>by simp[go_sem]) ?_;walk_nrm;refine qk.value hK (.pointer (some ⟨Nx,0,none⟩)) rfl rfl (by k_ne) (λ_=>by go_simp) (λ_=>by simp[go_sem]) ?_;walk_nrm;refine qk.value hK (.pointer (some ⟨Nx,0,none⟩)) rfl rfl (by k_ne) (λ_=>by go_simp) (λ_=>by simp[go_sem]) ?_;walk_nrm;refine qk.value hK (.int .i64 1) rfl rfl (by k_ne) (λ_=>by go_simp) (λ_=>by simp[go_sem]) ?_;walk_nrm;exact qk.stop hstop
theorem qcb[JunkSet]{tm:Array qgb}(hsz:tm.size=60){D:List qig}{real:List qgm}{Nx Fd A i N:Nat}{av:qgb}{ab:Option qho}{ac:Nat}{w:qg7}(h2:tm[2]?.getD qgd=pt A)(h3:tm[3]?.getD qgd=pt Fd)(hA:∀w₁,RC Fz K S w w₁->w₁.cell? ⟨A,0,none⟩=some (.slice ab N ac))(a7:Fz A)(a6:A<w.heap.size)(hi:i<N)(hN:N<=1000000)(hstop:∀w₁,RC Fz K S w w₁->Stop S (G ((qgA 142).at ⟨#[pt Fd,qgd,.bool false,pt Fd,pt Fd,pt Fd,qgd,qgd],[]⟩ [.inRegion Z1 [3,4,5],.code .ret]) (f2 ((((((((tm.setIfInBounds 12 (.int .i64 (i+1))).setIfInBounds 13 (.int .i64 i)).setIfInBounds 7 (.int .i64 i)).setIfInBounds 14 (.int .i64 i)).setIfInBounds 15 (.slice ab N ac)).setIfInBounds 16 (.int .i64 N)).setIfInBounds 17 (.bool false)).setIfInBounds 18 (.bool false)) D::real)) w₁) :qk qgr Fz K Stop S (G ((qgA 141).at ⟨#[pt Nx,.int .i64 1,qgd,qgd,.int .i64 0,pt Nx,pt Nx,pt Nx,.int .i64 1,.int .i64 (i+1)],[]⟩ [.inRegion Z2 [5],.code .ret]) (f1 tm D::real)) w:=by
 obtain⟨y0,y1,y2,y3,y4,y5,y6,y7,y8,y9,y10,y11,y12,y13,y14,y15,y16,y17,y18,y19,y20,y21,y22,y23,y24,y25,y26,y27,y28,y29,y30,y31,y32,y33,y34,y35,y36,y37,y38,y39,y40,y41,y42,y43,y44,y45,y46,y47,y48,y49,y50,y51,y52,y53,y54,y55,y56,y57,y58,y59,rfl⟩:=YI tm hsz;simp only[f1,f2,c20,wX,qci,qa2,Z2,Z1,wLB,jH,ju,qkC,qn2,qms,qgh,sqA,sqB,inn,qJ] at hstop ⊢;simp at h2 h3;subst h2 h3;simp only[qnv,List.set_cons_succ,List.set_cons_zero] at hstop;simp only[pt] at hstop ⊢;have a8:IntKind.i64.wrap (i:Int)=i:=qgH _ (by omega);refine qk.value hK (.int .i64 (i+1)) rfl rfl (by k_ne) (λ_=>by go_simp) (λ_=>by simp[go_sem]) ?_;walk_nrm;refine qk.region_end hK ?_;refine qk.retS hK ?_;refine qk.leave1 hK rfl rfl qps rfl ?_;walk_nrm;refine qk.value hK (.int .i64 i) rfl rfl (by k_ne) (λ_=>by go_simp) (λ_=>by simp[go_sem]) ?_;walk_nrm;refine qk.value hK (.int .i64 i) rfl rfl (by k_ne) (λ_=>by go_simp) (λ_=>by simp[go_sem]) ?_;walk_nrm;refine qk.region_end hK ?_;refine qk.seq hK ?_;refine qk.seq hK ?_;refine qk.region hK ?_;simp only[qgF,qgq,qgx,qgG,qgz,qgB,qhg];refine qk.value hK (.int .i64 i) rfl rfl (by k_ne) (λ_=>by go_simp) (λ_=>by simp[go_sem]) ?_;walk_nrm;refine qk.load hK (.slice ab N ac) rfl rfl (by k_ne) (λw₁ h₁=>?_) ?_
 ·have hc:=hA w₁ h₁;refine⟨by go_simp,λe he=>?_⟩;simp[go_sem,hc] at he;rw[he];exact q3x a7 (qgp a6 h₁.size)
 walk_nrm;refine qk.value hK (.int .i64 N) rfl rfl (by k_ne) (λ_=>by go_simp) (λ_=>by simp[go_sem]) ?_;walk_nrm;refine qk.value hK (.bool false) rfl rfl (by k_ne) (λ_=>by go_simp) (λ_=>by simp[go_sem]) ?_;walk_nrm;refine qk.value hK (.bool false) rfl rfl (by k_ne) (λ_=>by go_simp) (λ_=>by simp[go_sem]) ?_;walk_nrm;refine qk.enter hK rfl rfl (by k_ne) rfl qmD (by kernel_rfl) rfl ?_
 walk_nrmf qms
 refine qk.seq hK ?_;refine qk.region hK ?_;simp only[qgF,qgq,qgx,qgG,qgz,qgB,qhg];refine qk.value hK (.bool false) rfl rfl (by k_ne) (λ_=>by go_simp) (λ_=>by simp[go_sem]) ?_;walk_nrm;refine qk.region_end hK ?_;refine qk.seq hK ?_;refine qk.region hK ?_;simp only[qgF,qgq,qgx,qgG,qgz,qgB,qhg];refine qk.value hK (.pointer (some ⟨Fd,0,none⟩)) rfl rfl (by k_ne) (λ_=>by go_simp) (λ_=>by simp[go_sem]) ?_;walk_nrm;refine qk.value hK (.pointer (some ⟨Fd,0,none⟩)) rfl rfl (by k_ne) (λ_=>by go_simp) (λ_=>by simp[go_sem]) ?_;walk_nrm;refine qk.value hK (.pointer (some ⟨Fd,0,none⟩)) rfl rfl (by k_ne) (λ_=>by go_simp) (λ_=>by simp[go_sem]) ?_;walk_nrm;exact qk.stop hstop
end
end
section
open Go Go.RowKit Go.Conc Go.ConcN Go.ConcN.Gen Go.Conc.Lib Go.ConcR.Gen Go.Co Go.Sim
noncomputable def bot:qgm:={ (default:qgm) with fn:=Tryz.prog.funcs.size,mode:=.panicking [qov] }
def dn(Wg:Nat):List qig:=[qqi 140 #[pt Wg]]
section
variable{Fz:Bs}{K:qg7->qg7->Prop}{Stop:Bs->qgc->qg7->Prop}{S:Bs}(hK:∀a b c,K a b->K b c->K a c)
include hK
theorem q9B[JunkSet]{tm:Array qgb}(hsz:tm.size=60){D:List qig}{real:List qgm}{Nx A i N:Nat}{ab:Option qho}{ac:Nat}{w:qg7}(h2:tm[2]?.getD qgd=pt A)(hA:∀w₁,RC Fz K S w w₁->w₁.cell? ⟨A,0,none⟩=some (.slice ab N ac))(a7:Fz A)(a6:A<w.heap.size)(hi:N<=i)(hN:i<=1000000)(hend:∀tm todo,qk qgr Fz K Stop S (G { (qi0 139).at ⟨tm,D⟩ todo with mode:=.returning } real) w) :qk qgr Fz K Stop S (G ((qgA 141).at ⟨#[pt Nx,.int .i64 1,qgd,qgd,.int .i64 0,pt Nx,pt Nx,pt Nx,.int .i64 1,.int .i64 (i+1)],[]⟩ [.inRegion Z2 [5],.code .ret]) (f1 tm D::real)) w:=by
 obtain⟨y0,y1,y2,y3,y4,y5,y6,y7,y8,y9,y10,y11,y12,y13,y14,y15,y16,y17,y18,y19,y20,y21,y22,y23,y24,y25,y26,y27,y28,y29,y30,y31,y32,y33,y34,y35,y36,y37,y38,y39,y40,y41,y42,y43,y44,y45,y46,y47,y48,y49,y50,y51,y52,y53,y54,y55,y56,y57,y58,y59,rfl⟩:=YI tm hsz;simp only[f1,qci,qa2,Z2,wLB,jH,ju,qkC,qn2,qgh,sqA,sqB,inn,qJ];simp at h2;subst h2;simp only[pt];have a9:IntKind.i64.wrap (i:Int)=i:=qgH _ (by omega);have hge:decide ((N:Int)<=(i:Int))=true:=by simp;omega
 have a8:decide (N<=i)=true:=by simp;omega
 refine qk.value hK (.int .i64 (i+1)) rfl rfl (by k_ne) (λ_=>by go_simp) (λ_=>by simp[go_sem]) ?_;walk_nrm;refine qk.region_end hK ?_;refine qk.retS hK ?_;refine qk.leave1 hK rfl rfl qps rfl ?_;walk_nrm;refine qk.value hK (.int .i64 i) rfl rfl (by k_ne) (λ_=>by go_simp) (λ_=>by simp[go_sem]) ?_;walk_nrm;refine qk.value hK (.int .i64 i) rfl rfl (by k_ne) (λ_=>by go_simp) (λ_=>by simp[go_sem]) ?_;walk_nrm;refine qk.region_end hK ?_;refine qk.seq hK ?_;refine qk.seq hK ?_;refine qk.region hK ?_;simp only[qgF,qgq,qgx,qgG,qgz,qgB,qhg];refine qk.value hK (.int .i64 i) rfl rfl (by k_ne) (λ_=>by go_simp) (λ_=>by simp[go_sem]) ?_;walk_nrm;refine qk.load hK (.slice ab N ac) rfl rfl (by k_ne) (λw₁ h₁=>?_) ?_
 ·have hc:=hA w₁ h₁;refine⟨by go_simp,λe he=>?_⟩;simp[go_sem,hc] at he;rw[he];exact q3x a7 (qgp a6 h₁.size)
 walk_nrm;refine qk.value hK (.int .i64 N) rfl rfl (by k_ne) (λ_=>by go_simp) (λ_=>by simp[go_sem]) ?_;walk_nrm;refine qk.value hK (.bool true) rfl rfl (by k_ne) (λ_=>by go_simp) (λ_=>by simp[go_sem]) ?_;walk_nrm;refine qk.value hK (.bool true) rfl rfl (by k_ne) (λ_=>by go_simp) (λ_=>by simp[go_sem]) ?_;walk_nrm;refine qk.unwanted hK rfl rfl ?_;walk_nrm;refine qk.value hK (.bool true) rfl rfl (by k_ne) (λ_=>by go_simp) (λ_=>by simp[go_sem]) ?_;walk_nrm;refine qk.region_end hK ?_;refine qk.cond hK true rfl ?_;simp only[if_true];refine qk.retS hK ?_;exact hend _ _
theorem q9z{tm:Array qgb}(hsz:tm.size=60){D:List qig}{real:List qgm}{Fd:Nat}{w:qg7}(a6:tm[18]?.getD qgd=.bool false)(hend:∀tm todo,qk qgr Fz K Stop S (G { (qi0 139).at ⟨tm,D⟩ todo with mode:=.returning } real) w) :qk qgr Fz K Stop S (G ((qgA 142).at ⟨#[pt Fd,qgd,.bool false,pt Fd,pt Fd,pt Fd,.int .u32 1,qgd],[]⟩ [.inRegion Z1 [4,5],.code .ret]) (f2 tm D::real)) w:=by
 obtain⟨y0,y1,y2,y3,y4,y5,y6,y7,y8,y9,y10,y11,y12,y13,y14,y15,y16,y17,y18,y19,y20,y21,y22,y23,y24,y25,y26,y27,y28,y29,y30,y31,y32,y33,y34,y35,y36,y37,y38,y39,y40,y41,y42,y43,y44,y45,y46,y47,y48,y49,y50,y51,y52,y53,y54,y55,y56,y57,y58,y59,rfl⟩:=YI tm hsz;simp only[f2,c20,wX,qa2,Z1,wLB,jH,ju,qkC,qms,qgh,sqA,sqB,inn,qJ];simp at a6;subst a6;simp only[pt];refine qk.value hK (.bool true) rfl rfl (by k_ne) (λ_=>by go_simp) (λ_=>by simp[go_sem]) ?_;walk_nrm;refine qk.value hK (.bool true) rfl rfl (by k_ne) (λ_=>by go_simp) (λ_=>by simp[go_sem]) ?_;walk_nrm;refine qk.region_end hK ?_;refine qk.retS hK ?_;refine qk.leave1 hK rfl rfl qmD rfl ?_;walk_nrm;refine qk.value hK (.bool true) rfl rfl (by k_ne) (λ_=>by go_simp) (λ_=>by simp[go_sem]) ?_;walk_nrm;refine qk.region_end hK ?_;refine qk.cond hK true rfl ?_;simp only[if_true];refine qk.retS hK ?_;exact hend _ _
theorem q9A{tm:Array qgb}(hsz:tm.size=60){D:List qig}{real:List qgm}{Fd:Nat}{w:qg7}(a6:tm[18]?.getD qgd=.bool false)(hend:qk qgr Fz K Stop S (G ((qi0 139).at ⟨(tm.setIfInBounds 19 (.bool false)).setIfInBounds 20 (.bool false),D⟩ (.code wX::.inBlock 1::ju)) real) w) :qk qgr Fz K Stop S (G ((qgA 142).at ⟨#[pt Fd,qgd,.bool false,pt Fd,pt Fd,pt Fd,.int .u32 0,qgd],[]⟩ [.inRegion Z1 [4,5],.code .ret]) (f2 tm D::real)) w:=by
 obtain⟨y0,y1,y2,y3,y4,y5,y6,y7,y8,y9,y10,y11,y12,y13,y14,y15,y16,y17,y18,y19,y20,y21,y22,y23,y24,y25,y26,y27,y28,y29,y30,y31,y32,y33,y34,y35,y36,y37,y38,y39,y40,y41,y42,y43,y44,y45,y46,y47,y48,y49,y50,y51,y52,y53,y54,y55,y56,y57,y58,y59,rfl⟩:=YI tm hsz;simp only[f2,c20,wX,qa2,Z1,wLB,jH,ju,qkC,qms,qgh,sqA,sqB,inn,qJ] at hend ⊢;simp at a6;subst a6;simp only[pt];simp only[qnv,List.set_cons_succ,List.set_cons_zero] at hend;refine qk.value hK (.bool false) rfl rfl (by k_ne) (λ_=>by go_simp) (λ_=>by simp[go_sem]) ?_;walk_nrm;refine qk.value hK (.bool false) rfl rfl (by k_ne) (λ_=>by go_simp) (λ_=>by simp[go_sem]) ?_;walk_nrm;refine qk.region_end hK ?_;refine qk.retS hK ?_;refine qk.leave1 hK rfl rfl qmD rfl ?_;walk_nrm;refine qk.value hK (.bool false) rfl rfl (by k_ne) (λ_=>by go_simp) (λ_=>by simp[go_sem]) ?_;walk_nrm;refine qk.region_end hK ?_;refine qk.cond hK false rfl ?_;simp only[if_false,qh2];refine qk.skip hK ?_;exact hend
end
end
section
open Go Go.RowKit Go.Conc Go.ConcN Go.ConcN.Gen Go.Conc.Lib Go.ConcR.Gen Go.Co Go.Sim
noncomputable def q2b:qiw:=sqB (sqB (sqB (sqB (sqB jH))))
noncomputable def q55:Array qi6:=qJ (match q2b with | .cond _ r _=>r | c=>c)
noncomputable def f10(tm:Array qgb)(D:List qig):qgm:=(qi0 139).at ⟨tm,D⟩ (.inRegion q55 [0]::.inBlock 1::ju)
structure I14(Fd:Nat)(l:Array Bool)(a:Act):Prop where
 c1:l[1]?.getD false=true->l[0]?.getD false=true
 c2:l[2]?.getD false=true->l[1]?.getD false=true
 c4:l[4]?.getD false=true->l[3]?.getD false=true
 c5:l[5]?.getD false=false
 ac:∃T4 T5 T6 T7 T8,a=⟨#[.pointer (some ⟨Fd,0,none⟩),.bool true,qgd,qgd,T4,T5,T6,T7,T8,qgd],[]⟩/\(l[0]?.getD false=true->T4=.pointer (some ⟨Fd,0,none⟩))/\(l[1]?.getD false=true->T5=.pointer (some ⟨Fd,0,none⟩))/\(l[2]?.getD false=true->T6=.pointer (some ⟨Fd,0,none⟩))/\(l[3]?.getD false=true->T7=.bool true)/\(l[4]?.getD false=true->T8=.int .u32 1)
section
variable{Fz:Bs}{K:qg7->qg7->Prop}{Stop:Bs->qgc->qg7->Prop}{S:Bs}(hK:∀a b c,K a b->K b c->K a c)
include hK
theorem qc8{tm:Array qgb}(hsz:tm.size=60){D:List qig}{real:List qgm}{w:qg7}(h58:tm[58]?.getD qgd=.bool false)(hend:qk qgr Fz K Stop S (G ((qi0 139).at ⟨tm,D⟩ (.code wLB::ju)) real) w) :qk qgr Fz K Stop S (G ((qi0 139).at ⟨tm,D⟩ (.code q2b::.inBlock 1::ju)) real) w:=by
 obtain⟨y0,y1,y2,y3,y4,y5,y6,y7,y8,y9,y10,y11,y12,y13,y14,y15,y16,y17,y18,y19,y20,y21,y22,y23,y24,y25,y26,y27,y28,y29,y30,y31,y32,y33,y34,y35,y36,y37,y38,y39,y40,y41,y42,y43,y44,y45,y46,y47,y48,y49,y50,y51,y52,y53,y54,y55,y56,y57,y58,y59,rfl⟩:=YI tm hsz;simp only[q2b,wLB,jH,ju,qkC,qgh,sqA,sqB,inn] at hend ⊢;simp at h58;subst h58;refine qk.cond hK false rfl ?_;simp only[if_false,qh2];refine qk.skip hK ?_;refine qk.inBlock hK ?_;refine qk.inLoop hK ?_;exact hend
theorem qca{tm:Array qgb}{D:List qig}{real:List qgm}{Fd:Nat}{w:qg7}(hend:qk qgr Fz K Stop S (G ((qi0 139).at ⟨tm.setIfInBounds 59 (.tuple #[]),D⟩ (.code wLB::ju)) real) w) :qk qgr Fz K Stop S (G ((qgA 143).at ⟨#[pt Fd,.bool true,qgd,qgd,pt Fd,pt Fd,pt Fd,.bool true,.int .u32 1,.tuple #[]],[]⟩ [.inRegion JJ []]) (f10 tm D::real)) w:=by
 simp only[f10,q55,JJ,q2b,wLB,jH,ju,qkC,qnl,qgh,sqA,sqB,inn,qJ] at hend ⊢;refine qk.region_end hK ?_;refine qk.endS hK ?_;refine qk.leave0 hK rfl rfl Tryz.func143 rfl ?_;refine qk.region_end hK ?_;refine qk.inBlock hK ?_;refine qk.inLoop hK ?_;exact hend
theorem qc7(b0:∀w n,K w { w with drawn:=n }){tm:Array qgb}(hsz:tm.size=60){D:List qig}{real:List qgm}{Fd:Nat}{w:qg7}(h3:tm[3]?.getD qgd=pt Fd)(h58:tm[58]?.getD qgd=.bool true)(hstop:∀w₁,RC Fz K S w w₁->Stop S (G ((qgA 143).at ⟨#[pt Fd,.bool true,qgd,qgd,pt Fd,pt Fd,pt Fd,.bool true,.int .u32 1,qgd],[]⟩ [.inRegion JJ [5]]) (f10 tm D::real)) w₁) :qk qgr Fz K Stop S (G ((qi0 139).at ⟨tm,D⟩ (.code q2b::.inBlock 1::ju)) real) w:=by
 obtain⟨y0,y1,y2,y3,y4,y5,y6,y7,y8,y9,y10,y11,y12,y13,y14,y15,y16,y17,y18,y19,y20,y21,y22,y23,y24,y25,y26,y27,y28,y29,y30,y31,y32,y33,y34,y35,y36,y37,y38,y39,y40,y41,y42,y43,y44,y45,y46,y47,y48,y49,y50,y51,y52,y53,y54,y55,y56,y57,y58,y59,rfl⟩:=YI tm hsz;simp only[f10,q55,JJ,q2b,wLB,jH,ju,qkC,qnl,qgh,sqA,sqB,inn,qJ] at hstop ⊢;simp at h3 h58;subst h3 h58;simp only[pt] at hstop ⊢;refine qk.cond hK true rfl ?_;simp only[if_true];refine qk.region hK ?_;simp only[qgF,qgq,qgx,qgG,qgz,qgB,qhg];refine qk.enter hK rfl rfl (by k_ne) rfl Tryz.func143 (by kernel_rfl) rfl ?_
 walk_nrmf qnl
 refine qk.region_inv hK (by kernel_rfl) b0 (I14 Fd) ?_ ?_ ?_
 ·exact⟨by simp,by simp,by simp,by simp,qgd,qgd,qgd,qgd,qgd,rfl,by simp,by simp,by simp,by simp,by simp⟩
 ·rintro l a i hl ⟨c1,c2,c4,c5,T4,T5,T6,T7,T8,rfl,k0,k1,k2,k3,k4⟩ hi rest a8 a7;have a9:=(zZ hi).1;have b7:l.size=6:=hl;have gs:∀i j,i<6->(l.setIfInBounds i true)[j]?.getD false=if i=j then true else l[j]?.getD false:=λi j h=>ZG l i j (by omega);have b6:=YA hi;have a9:i=0\/i=1\/i=2\/i=3\/i=4\/i=5:=by
   have:i<6:=a9;omega
  rcases a9 with rfl | rfl | rfl | rfl | rfl | rfl
  ·refine qk.value hK (.pointer (some ⟨Fd,0,none⟩)) rfl rfl (by k_ne) (λ_=>by go_simp) (λ_=>by simp[go_sem]) ?_;walk_nrm;exact a7 _ ⟨by simp[gs],by simpa[gs] using λh=>(c2 h),by simpa[gs] using c4,by simpa[gs] using c5,_,T5,T6,T7,T8,rfl,λ_=>rfl,by simpa[gs] using k1,by simpa[gs] using k2,by simpa[gs] using k3,by simpa[gs] using k4⟩
  ·have a6:=zt hi rfl;simp[qhq] at a6;obtain rfl:=k0 (by simp[a6]);refine qk.value hK (.pointer (some ⟨Fd,0,none⟩)) rfl rfl (by k_ne) (λ_=>by go_simp) (λ_=>by simp[go_sem]) ?_;walk_nrm;exact a7 _ ⟨by simp[gs,a6],by simp[gs],by simpa[gs] using c4,by simpa[gs] using c5,_,_,T6,T7,T8,rfl,λ_=>rfl,λ_=>rfl,by simpa[gs] using k2,by simpa[gs] using k3,by simpa[gs] using k4⟩
  ·have a6:=zt hi rfl;simp[qhq] at a6;obtain rfl:=k1 (by simp[a6]);refine qk.value hK (.pointer (some ⟨Fd,0,none⟩)) rfl rfl (by k_ne) (λ_=>by go_simp) (λ_=>by simp[go_sem]) ?_;walk_nrm;exact a7 _ ⟨by simpa[gs] using c1,by simp[gs,a6],by simpa[gs] using c4,by simpa[gs] using c5,T4,_,_,T7,T8,rfl,by simpa[gs] using k0,λ_=>rfl,λ_=>rfl,by simpa[gs] using k3,by simpa[gs] using k4⟩
  ·refine qk.value hK (.bool true) rfl rfl (by k_ne) (λ_=>by go_simp) (λ_=>by simp[go_sem]) ?_;walk_nrm;exact a7 _ ⟨by simpa[gs] using c1,by simpa[gs] using c2,by simp[gs],by simpa[gs] using c5,T4,T5,T6,_,T8,rfl,by simpa[gs] using k0,by simpa[gs] using k1,by simpa[gs] using k2,λ_=>rfl,by simpa[gs] using k4⟩
  ·have a6:=zt hi rfl;simp[qhq] at a6;obtain rfl:=k3 (by simp[a6]);refine qk.enter hK rfl rfl (by k_ne) rfl Tryz.func182 (by kernel_rfl) rfl ?_
   walk_nrmf Tryz.f182
   refine qk.seq hK ?_;refine qk.region hK ?_;simp only[qgF,qgq,qgx,qgG,qgz,qgB,qhg];refine qk.value hK (.int .u32 0) rfl rfl (by k_ne) (λ_=>by go_simp) (λ_=>by simp[go_sem]) ?_;walk_nrm;refine qk.region_end hK ?_;refine qk.seq hK ?_;refine qk.seq hK ?_;refine qk.region hK ?_;simp only[qgF,qgq,qgx,qgG,qgz,qgB,qhg];refine qk.value hK (.bool true) rfl rfl (by k_ne) (λ_=>by go_simp) (λ_=>by simp[go_sem]) ?_;walk_nrm;refine qk.region_end hK ?_;refine qk.cond hK true rfl ?_;simp only[if_true];refine qk.seq hK ?_;refine qk.region hK ?_;simp only[qgF,qgq,qgx,qgG,qgz,qgB,qhg];refine qk.value hK (.int .u32 1) rfl rfl (by k_ne) (λ_=>by go_simp) (λ_=>by simp[go_sem]) ?_;walk_nrm;refine qk.region_end hK ?_;refine qk.retS hK ?_;refine qk.leave1 hK rfl rfl Tryz.func182 rfl ?_;walk_nrm;exact a7 _ ⟨by simpa[gs] using c1,by simpa[gs] using c2,by simp[gs,a6],by simpa[gs] using c5,T4,T5,T6,_,_,rfl,by simpa[gs] using k0,by simpa[gs] using k1,by simpa[gs] using k2,λ_=>rfl,λ_=>rfl⟩
  ·have a6:=zt hi rfl;simp[qhq] at a6;have d2:l[2]?.getD false=true:=by simp[a6]
   have d4:l[4]?.getD false=true:=by simp[a6]
   have d1:=c2 d2;have d0:=c1 d1;have d3:=c4 d4;obtain rfl:=k0 d0;obtain rfl:=k1 d1;obtain rfl:=k2 d2;obtain rfl:=k3 d3;obtain rfl:=k4 d4;have hr:rest=[]:=a8 (by
    simp only[qgu,List.filter_eq_nil_iff,qi4,qgv,qj0,not_and];intro j hj hn;exfalso;have b8:j<6:=hj;have hjs:j<(l.setIfInBounds 5 true).size:=by simp;omega
    have e:(l.setIfInBounds 5 true)[j]?.getD false=true:=by
     rw[gs 5 j (by omega)];obtain rfl | rfl | rfl | rfl | rfl | rfl:j=0\/j=1\/j=2\/j=3\/j=4\/j=5:=by omega
     all_goals simp[d0,d1,d2,d3,d4]
    simp only[qhz,qgC hjs,qgh] at hn e;rw[hn] at e;cases e)
   subst hr;exact qk.stop hstop
 ·rintro l a hl ⟨c1,c2,c4,c5,T4,T5,T6,T7,T8,rfl,k0,k1,k2,k3,k4⟩ hr;have q0:=zQ hr hl (i:=0) rfl (by simp[qhq]);have q1:=zQ hr hl (i:=1) rfl (by simp[qhq,q0]);have q2:=zQ hr hl (i:=2) rfl (by simp[qhq,q1]);have q3:=zQ hr hl (i:=3) rfl (by simp[qhq]);have q4:=zQ hr hl (i:=4) rfl (by simp[qhq,q3]);have q5:=zQ hr hl (i:=5) rfl (by simp[qhq,q2,q4]);rw[c5] at q5;cases q5
end
end
section
open Go Go.RowKit Go.Conc Go.ConcN Go.ConcN.Gen Go.Conc.Lib Go.ConcR.Gen Go.Co Go.Sim
def jr(Wg Nx A Fd Y V B:Nat):Array qgb:=#[pt Wg,pt Nx,pt A,pt Fd,pt Y,pt V,pt B]
def KJ(Wg Nx A Fd Y V B:Nat):qig:={ target:=.fn (.func 139) (jr Wg Nx A Fd Y V B),args:=#[] }
def tm0(Wg Nx A Fd Y V B:Nat):Array qgb:=#[pt Wg,pt Nx,pt A,pt Fd,pt Y,pt V,pt B]++qhk 53 qgd
section
variable{Fz:Bs}{K:qg7->qg7->Prop}{Stop:Bs->qgc->qg7->Prop}{S:Bs}(hK:∀a b c,K a b->K b c->K a c)
include hK
theorem q4G{Wg Nx A Fd Y V B:Nat}{w:qg7}(hend:qk qgr Fz K Stop S (G ((qi0 139).at ⟨tm0 Wg Nx A Fd Y V B,dn Wg⟩ (.code wLB::ju)) [bot]) w) :qk qgr Fz K Stop S (born qgr (KJ Wg Nx A Fd Y V B)) w:=by
 have hstep:∀w,qhp qgr false (born qgr (KJ Wg Nx A Fd Y V B)) w=.go (G ((qi0 139).at ⟨tm0 Wg Nx A Fd Y V B,[]⟩ [.code (Tryz.f139.body.getD .skip)]) [bot]) w #[]:=by
  intro w;simp[born,KJ,jr,qhp,qkH,qik,invoke,callFunc,qod,qkC,seen,qht,G,qh8,Frame.at,qi0,bot,tm0];rfl
 refine qk.pure hK rfl hstep ?_;simp only[wLB,ju,qkC,qgh,sqA,sqB,inn] at hend ⊢;refine qk.seq hK ?_;refine qk.region hK ?_;simp only[qgF,qgq,qgx,qgG,qgz,qgB,qhg];refine qk.pure hK rfl (λw=>stepG_defer rfl rfl (by k_ne) rfl) ?_;refine qk.region_end hK ?_;refine qk.block hK ?_;refine qk.loop hK ?_;have e:Act.put ⟨tm0 Wg Nx A Fd Y V B,[qqi 140 (Array.map (Act.eval ⟨tm0 Wg Nx A Fd Y V B,[]⟩) #[Operand.tmp 0])]⟩ none qgd=⟨tm0 Wg Nx A Fd Y V B,dn Wg⟩:=by
  simp[Act.put,dn,Act.eval,tm0]
 rw[<- e] at hend;exact hend
end
end
section
open Go Go.RowKit Go.Conc Go.ConcN Go.ConcN.Gen Go.Conc.Lib Go.ConcR.Gen Go.Co Go.Sim
theorem q7m(T:Array qgb)(todo:List qkl):qnq qgr 2 0 (G { (qi0 139).at ⟨T,[]⟩ todo with mode:=.returning } [bot]):=by
 refine QuitsD.ctl (g':=G bot []) rfl (λw=>?_) ?_
 ·simp[G,qhp,qkH,qio,qjo,Frame.at,qi0,bot,qod,qkC,seen,qht,qov];try rfl
 refine QuitsD.ctl (g':={ G bot [] with status:=.finished }) rfl (λw=>?_) ⟨rfl,rfl⟩;simp[G,qhp,qkH,bot,qov,qnC];rfl
section
variable{Fz:Bs}{K:qg7->qg7->Prop}{Stop:Bs->qgc->qg7->Prop}{S:Bs}(hK:∀a b c,K a b->K b c->K a c)
include hK
theorem qc9{Wg:Nat}{w:qg7}(hL:qjg 166 Wg w)(a7:∀w w₁,K w w₁->LR 166 Wg w w₁)(a6:∀g w,qeC qgr 166 Wg g w->Stop S g w)(tm:Array qgb)(todo:List qkl) :qk qgr Fz K Stop S (G { (qi0 139).at ⟨tm,dn Wg⟩ todo with mode:=.returning } [bot]) w:=by
 refine qk.pure hK rfl (λw=>stepG_unwind_enter (f:=140) (ds:=[]) rfl Y4.f_done (nm_done link) rfl) ?_;have:=Go.Co.done (L:=link) (Wg:=Wg) (cs:=[bot]) (qt:=2) Y4 (c:={ (qi0 139).at ⟨tm,[]⟩ todo with mode:=.returning }) rfl (q7m tm todo) w hL;exact qk.of_goes2 (λa b h=>a7 a b h.k) (λw=>LR.refl w) a6 this
end
end
section
open Go Go.Sim
def lst:List Nat:=[3,4,5,6,7,8,9,10,11,12,13,14,15,16,17,18,19,20,21,22,23,24,25,26,27,28,29,30,31,32,33,34,35,36,37,38,39,40,41,42,43,44,45,46,47,48,49,50,51,52,53,54,55,56,57,58,59,60,61,62,63,64,65,66,67,68,69,70,71,72,73,74,75,76,77,78,79,80,81,82,83,84,85,86,87,88,89,90,91,92,93,94,95,96,97,98,99,100,101,102,103,104,105,106,107,108,109,110,111,112,113,114,115,116,117,118,119,120,121,122,123,124,125,126,127,128,129,130,131,132,133,134,135,136,137,145,146,147,148,149,150,151,152,153,154,155,156,157,158,159,160,161,162,163,164,165,182,188,189,190,191,192,193,194,195,196,197,198,199,200,206,207,208,209,210,211,212,213,214,215,216,217,218,219,220,221,222,223,224,241,242]
noncomputable def ls:Lets:=⟨λf=>lst.contains f,λn=>n == "gladstone/pile.holds",λb ts=>biB Tp.prog b ts⟩
theorem qcn{f:Nat}(h:ls.f f=true):f∈lst:=by
 have:lst.contains f=true:=h;simpa using this
theorem qes:(lst.all λf=>qcz Tp.prog qgr ls f)=true:=by kernel_rfl
theorem qer:(lst.all λf=>qcz Tp.prog Tp.prog ls f)=true:=by kernel_rfl
theorem q42:(lst.all λf=>qba Tp.prog ls f)=true:=by kernel_rfl
def qdi(Q:qgl)(s:Lets)(n:String)(t:Nat):Bool:=match Q.info? t with
 | none=>true
 | some i=>match i.methods.find? (·.name == n) with
  | none=>true
  | some m=>m.path.isEmpty && (match m.func with | some (f,b)=>s.f f && (b || (match Q.underlying t with | some (.pointer _)=>false | _=>true)) | none=>false)
theorem q2F{f:qgt->Option ql2}{d:TypeDesc}{i:ql2}(h:Made.reckon f d=some i):i.methods=#[]:=by
 unfold Made.reckon at h;split at h
 ·obtain⟨j,-,h⟩:=qhr.1 h;split at h
  ·cases h
  ·split at h
   ·cases h
   ·obtain⟨x,-,h⟩:=qhr.1 h;cases h;rfl
  ·obtain⟨x,-,h⟩:=qhr.1 h;cases h;rfl
 ·obtain⟨j,-,h⟩:=qhr.1 h;obtain⟨x,-,h⟩:=qhr.1 h;cases h;rfl
 ·obtain⟨j,-,h⟩:=qhr.1 h;obtain⟨x,-,h⟩:=qhr.1 h;obtain⟨x,-,h⟩:=qhr.1 h;obtain⟨x,-,h⟩:=qhr.1 h;cases h;rfl
 ·obtain⟨j,-,h⟩:=qhr.1 h;obtain⟨x,-,h⟩:=qhr.1 h;cases h;rfl
 ·obtain⟨j,-,h⟩:=qhr.1 h;cases h;rfl
 ·obtain⟨j,-,h⟩:=qhr.1 h;obtain⟨x,-,h⟩:=qhr.1 h;cases h;rfl
 ·unfold Made.reckonStruct at h;obtain⟨r,-,h⟩:=qhr.1 h;split at h<;>(dsimp only at h;split at h<;>(cases h;rfl))
 ·cases h
theorem q7D{P:qgl}{t:Nat}{i:ql2}(h:P.info? t=some i):t<P.types.size\/i.methods=#[]:=by
 by_cases ht:t<P.types.size
 ·exact .inl ht
 ·have h':Tables.info? P.toTables t=some i:=h;unfold Tables.info? at h';rw[if_neg ht] at h';unfold Made.depth Made.infoAt at h';rw[if_neg ht] at h';obtain⟨d,-,h2⟩:=qhr.1 h';exact .inr (q2F h2)
theorem qfu:((qgB Tp.prog.types.size).all (qdi Tp.prog ls "gladstone/pile.holds"))=true:=by kernel_rfl
theorem q6h:∀n,ls.m n=true->∀t i m,Tp.prog.info? t=some i->i.methods.find? (·.name == n)=some m->m.path=#[]/\∃f b,m.func=some (f,b)/\ls.f f=true/\∀e,Tp.prog.underlying t=some (.pointer e)->b=true:=by
 intro n hn t i m hi hf;obtain rfl:n = "gladstone/pile.holds" := by simpa[ls] using hn
 have ht:t<Tp.prog.types.size:=(q7D hi).resolve_right λe=>by rw[e] at hf;cases hf
 have h:=qh9.1 qfu t (qi4.2 ht);unfold qdi at h;rw[hi] at h;dsimp only at h;rw[hf] at h;dsimp only at h;obtain⟨h1,h2⟩:=qow.1 h;refine⟨by simpa using h1,?_⟩;cases hm:m.func with
 | none=>rw[hm] at h2;cases h2
 | some fb=>
  obtain⟨f,b⟩:=fb;rw[hm] at h2;dsimp only at h2;obtain⟨h3,h4⟩:=qow.1 h2;refine⟨f,b,rfl,h3,λe he=>?_⟩;rw[he] at h4;simpa using h4
theorem ne85:Tp.prog.funcs[85]?≠Tryz.prog.funcs[85]?:=by
 intro h;have h1:(Tp.prog.funcs[85]?).map (λf=>f.body.isNone || (match f.body with | some (.exit _)=>true | _=>false))=some true:=by kernel_rfl
 rw[h] at h1;have h2:(Tryz.prog.funcs[85]?).map (λf=>f.body.isNone || (match f.body with | some (.exit _)=>true | _=>false))=some false:=by kernel_rfl
 rw[h2] at h1;cases h1
theorem z6(f:Nat)(h:f≠85):Tp.prog.funcs[f]?=Tryz.prog.funcs[f]?:=by
 unfold Tp.prog;dsimp only;rw[qh5,if_neg (λe=>h e.symm)]
theorem qdo(jk:Nat->Prop):@Duo (JS Tp.prog qgr ls jk) Tp.prog qgr:=by
 refine qb1 rfl (by kernel_rfl) (by kernel_rfl) (λb ts h=>h) (λf h=>?_) (λf h hs=>?_) q6h
 ·exact qh9.1 qes f (qcn h)
 ·exact qh9.1 q42 f (qcn h)
theorem qdn(jk:Nat->Prop):@Duo (JS Tp.prog Tp.prog ls jk) Tp.prog Tp.prog:=by
 refine qb1 rfl (by kernel_rfl) (by kernel_rfl) (λb ts h=>h) (λf h=>?_) (λf h hs=>?_) q6h
 ·exact qh9.1 qer f (qcn h)
 ·exact qh9.1 q42 f (qcn h)
theorem qf3(Q P:qgl)(s:Lets)(jk:Nat->Prop):Up (JS Q P s jk) (JS Q Q s jk) :=
 ⟨λ_ h=>h,λ_ h=>h,λ_ _ h=>h,λ_ h=>h,λ_ ⟨⟨g,h1,_⟩,h2⟩=>⟨⟨g,h1,h1⟩,h2⟩,rfl⟩
theorem up(jk:Nat->Prop):Up (JS Tp.prog qgr ls jk) (JS Tp.prog Tp.prog ls jk):=qf3 _ _ _ _
theorem q9b:∀fk,Tp.prog.funcs[fk]?≠Tryz.prog.funcs[fk]?->∀a k cs u,∃o w es,qhp Tp.prog true { frame:=qh8 Tp.prog fk a k,callers:=cs,status:=.running,dying:=none } u true=.ended o w es:=by
 intro fk h a k cs u;have e:fk=85:=qhG λhn=>h (z6 fk hn);subst e;have hb:(Tp.prog.funcs[85]?).bind (·.body)=some (.exit 0):=by kernel_rfl
 unfold qh8;dsimp only;rw[hb];exact⟨_,_,_,rfl⟩
theorem hrf:Tryz.prog.follows .rangeFuncRecover=true:=by kernel_rfl
end
end Go.Proofs.YtidgnkmjgioapaaGreat
section
namespace Go.Co
open Go Go.Sim
def frz:Obj->Obj
 | .cells c e f=>.cells c e (0,max c.size f.2)
 | _=>.cells #[] 0
noncomputable def Jo(Q:qgl)(W:qg7)(nds jks:List Nat)(b:Nat):Obj :=
 if b∈jks then qeg Q else if b∈nds then(match W.heap[b]? with | some o=>frz o | none=>.cells #[] 0) else .cells #[] 0
noncomputable def lw(Q:qgl)(W:qg7)(nds jks:List Nat):qg7:={ W with heap:=(qkn W.heap.size).map (Jo Q W nds jks) }
def lr(n:Nat)(nds jks:List Nat):Ren:=(qgB n).map λb=>if b∈nds\/b∈jks then some b else none
section
variable{Q:qgl}{W:qg7}{nds jks:List Nat}
theorem q6i:(lw Q W nds jks).heap.size=W.heap.size:=by simp[lw]
theorem q1u{b:Nat}(h:b<W.heap.size):(lw Q W nds jks).heap[b]?=some (Jo Q W nds jks b):=by simp[lw,h]
theorem JB{n i j:Nat}:BR (lr n nds jks) i j↔i<n/\i=j/\(i∈nds\/i∈jks):=by
 unfold BR lr;rw[qj1];by_cases h:i<n
 ·rw[List.getElem?_range h];simp only[qi1,qhc,h,true_and];split
  ·rename_i hm;simp[hm]
  ·rename_i hm;simp[hm]
 ·rw[qic (by simp;omega)];simp[h]
theorem q6k{b:Nat}{cs:Array qgb}{e:qgt}{f:Nat × Nat}(hb:b∈nds)(hj:b∉jks)(h:W.heap[b]?=some (.cells cs e f)):(lw Q W nds jks).heap[b]?=some (.cells cs e (0,max cs.size f.2)):=by
 rw[q1u (qg8.1 h).1];unfold Jo;rw[if_neg hj,if_pos hb,h];rfl
theorem qfj[J:JunkSet]{w:qg7}(a7:∀i,JunkSet.jk i↔i∈jks)(hg:Q.globals.size=0)(hd:∀b∈nds,b∉jks)(hn:∀b∈nds,b<W.heap.size)(hj:∀b∈jks,b<W.heap.size)(hok:∀b∈nds,∃cs e f,W.heap[b]?=some (.cells cs e f)/\∀(i:Nat) (v:qgb),cs[i]?=some v->VR (lr W.heap.size nds jks) v v)(hw:∀b∈nds,w.heap[b]?=W.heap[b]?)(hs:W.heap.size<=w.heap.size)(ho:w.os=W.os)(a8:∀b∈jks,∃c e f,w.heap[b]?=some (.cells c e f)) :WR Q W.heap.size (lr W.heap.size nds jks) (lw Q W nds jks) w where
 len:=by simp[lr,lw]
 nodup:=λi i' j h h'=>by rw[JB] at h h';omega
 lt:=λi j h=>by rw[JB] at h;omega
 obj:=λi j o h hx=>by
  rw[JB] at h;obtain⟨h1,rfl,h2⟩:=h;rw[q1u h1] at hx;cases hx;by_cases hm:i∈jks
  ·refine .inl ⟨(a7 i).2 hm,by unfold Jo;rw[if_pos hm],by omega,a8 i hm⟩
  ·have a6:i∈nds:=h2.resolve_right hm;obtain⟨cs,e,f,hc,hv⟩:=hok i a6;refine .inr ⟨λk=>hm ((a7 i).1 k),.cells cs e f,by rw[hw i a6,hc],?_⟩;have:Jo Q W nds jks i=.cells cs e (0,max cs.size f.2):=by
    unfold Jo;rw[if_neg hm,if_pos a6,hc];rfl
   rw[this];exact .cells e ⟨rfl,λk x y hx hy=>by rw[hx] at hy;cases hy;exact hv k x hx⟩ λo h1 h2=>by omega
 low:=λi hi=>by
  rw[q1u hi];unfold Jo;split
  ·exact⟨_,_,_,rfl,λo ho=>by simp at ho⟩
  ·split
   ·split
    ·rename_i o ho
     cases o with
     | cells c e f=>exact⟨_,_,_,rfl,λo ho=>by simp;omega⟩
     | _=>exact⟨_,_,_,rfl,λo ho=>by simp at ho⟩
    ·exact⟨_,_,_,rfl,λo ho=>by simp at ho⟩
   ·exact⟨_,_,_,rfl,λo ho=>by simp at ho⟩
 env:=by show W.os.env=w.os.env;rw[ho]
 below:=λi hi=>hj i ((a7 i).1 hi)
 gar:=λi o hx=>by
  right;have hi:i<W.heap.size:=by
   have:=(qg8.1 hx).1
   rwa [q6i] at this
  rw[q1u hi] at hx;cases hx;unfold Jo;split
  ·rfl
  ·split
   ·split
    ·rename_i o _;cases o<;>rfl
    ·rfl
   ·rfl
end
end Go.Co
namespace Go.Proofs.YtidgnkmjgioapaaGreat
open Go Go.Co Go.Sim
section
variable{Q:qgl}{W:qg7}{nds jks:List Nat}{lo hi:Nat}
theorem xd{b o:Nat}{cs:Array qgb}{e:qgt}{f:Nat × Nat}{v:qgb}(hb:b∈nds)(hj:b∉jks)(h:W.heap[b]?=some (.cells cs e f))(hv:cs[o]?=some v):(lw Q W nds jks).cell? ⟨b,o,none⟩=some v :=
 q8 (q6k hb hj h) hv
theorem q6l{v:qgb}{l:List Int}(h:qe lo hi W v l)(hd:∀b∈nds,b∉jks)(hb:∀B o n c,v=.slice (some ⟨B,o,none⟩) n c->l≠[]->B∈nds):qe lo hi (lw Q W nds jks) v l:=by
 obtain⟨base,cap,rfl,hl,hr⟩:=h;refine⟨base,cap,rfl,hl,λhne=>?_⟩;obtain⟨B,o,cs,fr,rfl,e2,e3,e4,e5⟩:=hr hne;have hB:=hb B o _ _ rfl hne;exact⟨B,o,cs,_,rfl,e2,e3,q6k hB (hd B hB) e4,e5⟩
theorem q6j{v:qgb}{ps:List Par}(h:qr lo hi W v ps)(hd:∀b∈nds,b∉jks)(hb:∀B o n c,v=.slice (some ⟨B,o,none⟩) n c->ps≠[]->B∈nds):qr lo hi (lw Q W nds jks) v ps:=by
 obtain⟨base,cap,rfl,hl,hr⟩:=h;refine⟨base,cap,rfl,hl,λhne=>?_⟩;obtain⟨B,o,cs,fr,rfl,e2,e3,e4,e5⟩:=hr hne;have hB:=hb B o _ _ rfl hne;exact⟨B,o,cs,_,rfl,e2,e3,q6k hB (hd B hB) e4,e5⟩
theorem qad{v:qgb}{n:Nat}{c:Nat->Nat->Int}(h:kW lo hi W v n c)(hd:∀b∈nds,b∉jks)(hb:∀B o n' c,v=.slice (some ⟨B,o,none⟩) n' c->0<n->B∈nds):kW lo hi (lw Q W nds jks) v n c:=by
 obtain⟨base,cap,rfl,hl,hr⟩:=h;refine⟨base,cap,rfl,hl,λhne=>?_⟩;obtain⟨B,o,cs,ty,fr,rfl,e2,e3,e4,e5⟩:=hr hne;have hB:=hb B o _ _ rfl hne;exact⟨B,o,cs,ty,_,rfl,e2,e3,q6k hB (hd B hB) e4,e5⟩
end
end Go.Proofs.YtidgnkmjgioapaaGreat
end
section
namespace Go.Proofs.YtidgnkmjgioapaaGreat
open Go Go.RowKit Go.Conc Go.ConcN Go.ConcN.Gen Go.Conc.Lib Go.ConcR.Gen Go.Co Go.Sim
inductive Lam | st | ld (i:Nat) | wk (i:Nat) | fn
structure Ph4 where
 W1:qg7
 clA:Nat->Cl
 lo:Nat
 Wg:Nat
 Nx:Nat
 A:Nat
 Fd:Nat
 Y:Nat
 V:Nat
 B:Nat
 ps:List Par
 lim:Int
 l:List Int
 wl:List Int
 N:Nat
 c:Nat->Nat->Int
 yb:Option qho
 yc:Nat
 ab:Option qho
 ac:Nat
 pv:qgb
 vv:qgb
 nds:List Nat
 Post:qgb->qg7->Prop
 Fin:qgc->qg7->Prop
 AnchW:qgc->qg7->Prop
namespace Ph4
variable(x:Ph4)
def jks:List Nat:=[x.Wg,x.Nx,x.Fd]
def jk(b:Nat):Prop:=b∈x.jks
@[reducible] noncomputable def js:JunkSet:=JS Tp.prog qgr ls x.jk
def Fz(b:Nat):Prop:=b<x.W1.heap.size/\x.clA b=.ro x.lo
def Sy(b:Nat):Prop:=b=x.Nx\/b=x.Fd
def DataAt(W:Nat × Bool)(w:qg7):Prop:=w.heap[x.Nx]?=some (.cells #[.int .i64 W.1] 158 (0,0))/\w.heap[x.Fd]?=some (.cells #[.int .u32 (if W.2 then 1 else 0)] 161 (0,0))
def Liv(w:qg7):Prop:=qjg 166 x.Wg w/\∃W,x.DataAt W w
def K(w w₁:qg7):Prop:=(qjg 166 x.Wg w->qjg 166 x.Wg w₁)/\((∃W,x.DataAt W w)->∃W,x.DataAt W w₁)
def gn:Nat->Int:=pre Par.mn x.ps x.ps.length
def gx:Nat->Int:=pre Par.mx x.ps x.ps.length
def bad(i:Nat):Bool:=qp x.ps (ovr (x.c i) x.gn x.wl x.wl.length) x.l && !qp x.ps (ovr (x.c i) x.gx x.wl x.wl.length) x.l
noncomputable def w0:qg7:=lw Tp.prog x.W1 x.nds x.jks
def r0:Ren:=Go.Co.lr x.W1.heap.size x.nds x.jks
def tmp0:Array qgb:=tm0 x.Wg x.Nx x.A x.Fd x.Y x.V x.B
structure Ok:Prop where
 hlo:1<=x.lo
 hY:x.W1.heap[x.Y]?=some (.cells #[.slice x.yb x.ps.length x.yc,.int .i64 x.lim] 91 (0,0))
 hV:x.W1.heap[x.V]?=some (.cells #[x.vv] 29 (0,0))
 hB:x.W1.heap[x.B]?=some (.cells #[x.pv] 29 (0,0))
 hA:x.W1.heap[x.A]?=some (.cells #[.slice x.ab x.N x.ac] 152 (0,0))
 pars:qr 0 x.W1.heap.size x.W1 (.slice x.yb x.ps.length x.yc) x.ps
 ints:qe 0 x.W1.heap.size x.W1 x.vv x.wl
 intp:qe 0 x.W1.heap.size x.W1 x.pv x.l
 cas:kW 0 x.W1.heap.size x.W1 (.slice x.ab x.N x.ac) x.N x.c
 n5:x.ps.length<=5
 bmn:∀i,0<=x.gn i/\x.gn i<=1000
 bmx:∀i,0<=x.gx i/\x.gx i<=1000
 bc:∀i d,0<=x.c i d/\x.c i d<=1000
 hl:∀y∈x.l,0<=y/\y<x.ps.length
 ll:x.l.length<=1000
 hwl:∀y∈x.wl,0<=y/\y<5
 hN:x.N<=900000
 jlt:∀b∈x.jks,b<x.W1.heap.size
 ne1:x.Nx≠x.Fd
 ne2:x.Wg≠x.Nx
 ne3:x.Wg≠x.Fd
 sync:∀b∈x.jks,x.clA b=.sync
 nro:∀b∈x.nds,x.clA b=.ro x.lo
 nok:∀b∈x.nds,∃cs e f,x.W1.heap[b]?=some (.cells cs e f)/\∀(i:Nat) (v:qgb),cs[i]?=some v->@VR x.js x.r0 v v
 n0:0∈x.nds
 nY:x.Y∈x.nds
 nV:x.V∈x.nds
 nB:x.B∈x.nds
 nA:x.A∈x.nds
 nyb:∀B o n c,qh7 x.yb x.ps.length x.yc=.slice (some ⟨B,o,none⟩) n c->x.ps≠[]->B∈x.nds
 nvv:∀B o n c,x.vv=.slice (some ⟨B,o,none⟩) n c->x.wl≠[]->B∈x.nds
 npv:∀B o n c,x.pv=.slice (some ⟨B,o,none⟩) n c->x.l≠[]->B∈x.nds
 nab:∀B o n c,qh7 x.ab x.N x.ac=.slice (some ⟨B,o,none⟩) n c->0<x.N->B∈x.nds
 cla0:∀b,x.W1.heap.size<=b->x.clA b=.mine 0
structure Cm(w:qg7):Prop where
 liv:x.Liv w
 fz:∀b,x.Fz b->w.heap[b]?=x.W1.heap[b]?
 size:x.W1.heap.size<=w.heap.size
 os:w.os=x.W1.os
structure Wk(S:Bs)(Z:Ren)(a:Act)(tm:Array qgb)(wq w:qg7):Prop where
 rel:@qez x.js Tp.prog qgr x.W1.heap.size x.Fz S x.jk (λb=>b<x.W1.heap.size) Z a tm wq w
 le:Le x.r0 Z
 gr:x.w0.grownBy (wq.tp x.w0.tape) none
 sz:a.tmps.size=60
 cap:∀k,k<7->a.tmps[k]?=x.tmp0[k]?
def WA(l:Lam)(S:Bs)(g:qgc)(w:qg7):Prop:=x.Cm w/\match l with
 | .st=>(g=born qgr (KJ x.Wg x.Nx x.A x.Fd x.Y x.V x.B)/\∀b,¬ S b) \/
   ∃Z a tm wq,x.Wk S Z a tm wq w/\g=G ((qgA 143).at ⟨#[pt x.Fd,.bool true,qgd,qgd,pt x.Fd,pt x.Fd,pt x.Fd,.bool true,.int .u32 1,.tuple #[]],[]⟩ [.inRegion JJ []]) [f10 tm (dn x.Wg),bot]
 | .ld i=>i<x.N/\∃Z a tm wq,x.Wk S Z a tm wq w/\g=G ((qgA 141).at ⟨#[pt x.Nx,.int .i64 1,qgd,qgd,.int .i64 0,pt x.Nx,pt x.Nx,pt x.Nx,.int .i64 1,.int .i64 (i+1)],[]⟩ [.inRegion Z2 [5],.code .ret]) [f1 tm (dn x.Wg),bot]
 | .wk i=>i<x.N/\∃Z a tm wq,x.Wk S Z a tm wq w/\a.tmps[7]?=some (.int .i64 i)/\a.tmps[18]?=some (.bool false)/\g=G ((qgA 142).at ⟨#[pt x.Fd,qgd,.bool false,pt x.Fd,pt x.Fd,pt x.Fd,.int .u32 0,qgd],[]⟩ [.inRegion Z1 [4,5],.code .ret]) [f2 tm (dn x.Wg),bot]
 | .fn=>∃Z a tm wq,x.Wk S Z a tm wq w/\((∃i:Nat,x.N<=i/\i<=1000000/\g=G ((qgA 141).at ⟨#[pt x.Nx,.int .i64 1,qgd,qgd,.int .i64 0,pt x.Nx,pt x.Nx,pt x.Nx,.int .i64 1,.int .i64 (i+1)],[]⟩ [.inRegion Z2 [5],.code .ret]) [f1 tm (dn x.Wg),bot]) \/
   (a.tmps[18]?=some (.bool false)/\g=G ((qgA 142).at ⟨#[pt x.Fd,qgd,.bool false,pt x.Fd,pt x.Fd,pt x.Fd,.int .u32 1,qgd],[]⟩ [.inRegion Z1 [4,5],.code .ret]) [f2 tm (dn x.Wg),bot]))
def fin:Lam->Prop | .fn=>True | _=>False
def Tr(W:Nat × Bool)(l:Lam)(γ':Nat × Bool)(l':Lam):Prop :=
 ((l=.st\/∃i,l=.wk i/\x.bad i=false)/\γ'=(W.1+1,W.2)/\l'=(if W.1<x.N then .ld W.1 else .fn)) \/
 (∃i,l=.ld i/\γ'=W/\l'=(if W.2 then .fn else .wk i)) \/
 (∃i,l=.wk i/\x.bad i=true/\i<x.N/\γ'=(W.1,true)/\l'=.st)
def JK:Lam->Bool | .fn=>true | _=>false
def xq:Nat->(Nat->Lam)->Nat
 | 0,_=>0
 | j+1,ls=>xq j ls+(if JK (ls j) then 1 else 0)
def J(W:Nat × Bool)(j:Nat)(ls:Nat->Lam):Prop :=
 W.1<=x.N+xq j ls/\(W.2=true->∃i,i<x.N/\x.bad i=true)/\(W.2=false->∀i,i<x.N->i<W.1->x.bad i=false\/∃k,k<j/\(ls k=.ld i\/ls k=.wk i))/\(∀k,k<j->ls k=.fn->W.2=true\/x.N<=W.1)
def m(W:Nat × Bool):Nat:=3*(x.N - W.1)
def nu:Lam->Nat | .fn=>0 | .st=>1 | .wk _=>2 | .ld _=>3
noncomputable def cfg:Cfg (Nat × Bool) Lam where
 P:=qgr
 ty:=166
 Wg:=x.Wg
 lo:=x.lo
 n:=min 4 x.N
 Fz:=x.Fz
 Sy:=x.Sy
 clA:=x.clA
 DataAt:=x.DataAt
 WA:=x.WA
 Tr:=x.Tr
 J:=x.J
 m:=x.m
 nu:=nu
 l0:=.st
 fin:=fin
 W1:=x.W1
 Fin:=x.Fin
 AnchW:=x.AnchW
 Post:=x.Post
end Ph4
end Go.Proofs.YtidgnkmjgioapaaGreat
end
section
namespace Go.Proofs.YtidgnkmjgioapaaGreat
open Go Go.RowKit Go.Conc Go.ConcN Go.ConcN.Gen Go.Conc.Lib Go.ConcR.Gen Go.Co Go.Sim
namespace Ph4
section
variable{x:Ph4}{S:Bs}{w w₁:qg7}{Z:Ren}{a:Act}{tm:Array qgb}{wq:qg7}
theorem kt:∀a b c,x.cfg.K a b->x.cfg.K b c->x.cfg.K a c:=Cfg.K.trans
theorem Cm.rely(h:x.Cm w)(r:RC x.Fz x.cfg.K S w w₁):x.Cm w₁ :=
 ⟨⟨r.k.1 h.liv.1,r.k.2 h.liv.2⟩,λb hb=>(r.fz b hb).trans (h.fz b hb),qgi h.size r.size,r.os.trans h.os⟩
theorem Liv.cells(h:x.Liv w){b:Nat}(hb:b∈x.jks):∃c e f,w.heap[b]?=some (.cells c e f):=by
 obtain⟨⟨st,sm,hw⟩,W,h1,h2⟩:=h;unfold jks at hb;simp only[qhH,qif,or_false] at hb;rcases hb with rfl | rfl | rfl
 ·exact⟨_,_,_,hw⟩
 ·exact⟨_,_,_,h1⟩
 ·exact⟨_,_,_,h2⟩
theorem Wk.to(h:x.Wk S Z a tm wq w)(hk:∀b,x.Fz b\/S b->w₁.heap[b]?=w.heap[b]?)(hs:w.heap.size<=w₁.heap.size)(ho:w₁.os=w.os)(hl:x.Liv w₁):x.Wk S Z a tm wq w₁:=by
 letI:JunkSet:=x.js
 exact{ h with rel:=⟨h.rel.len,h.rel.wr.rely hs (by rw[ho]) (λi j hij a6=>by
    rcases qia i x.W1.heap.size with hlt | hge
    ·exact hk j (.inl (h.rel.own.low i j hij hlt a6))
    ·exact hk j (.inr (h.rel.own.own i j hij hge))) (λi j hij a6=>hl.cells (h.rel.jb i j hij a6)),h.rel.gl,h.rel.tm,h.rel.df,h.rel.own,h.rel.jb,h.rel.js⟩ }
theorem Wk.rely(h:x.Wk S Z a tm wq w)(hc:x.Cm w)(r:RC x.Fz x.cfg.K S w w₁):x.Wk S Z a tm wq w₁ :=
 h.to (λb hb=>hb.elim (r.fz b) (r.own b)) r.size r.os (hc.rely r).liv
theorem Wk.set(h:x.Wk S Z a tm wq w)(i:Nat)(hi:7<=i){u v:qgb}(hv:@VR x.js Z u v):x.Wk S Z ⟨a.tmps.setIfInBounds i u,a.defers⟩ (tm.setIfInBounds i v) wq w:=by
 letI:JunkSet:=x.js
 exact{ h with
  rel:=⟨h.rel.len,h.rel.wr,h.rel.gl,@AsR.set x.js _ _ _ h.rel.tm i _ _ hv,h.rel.df,h.rel.own,h.rel.jb,h.rel.js⟩
  sz:=by simp[h.sz]
  cap:=λk hk=>by
   show(a.tmps.setIfInBounds i u)[k]?=_;rw[qhv (by omega)];exact h.cap k hk }
theorem br0{b:Nat}(hb:b∈x.nds\/b∈x.jks)(hlt:b<x.W1.heap.size):BR x.r0 b b:=JB.2 ⟨hlt,rfl,hb⟩
theorem Wk.ptr(h:x.Wk S Z a tm wq w){k b:Nat}(hk:a.tmps[k]?=some (pt b))(hb:BR x.r0 b b):tm[k]?.getD qgd=pt b:=by
 letI:JunkSet:=x.js
 obtain⟨y,hy,hv⟩:=@AsR.get x.js _ _ _ h.rel.tm k _ hk;rw[hy];unfold pt at hv ⊢;cases hv with
 | ptr off spot hij=>rw[BR.fn hij (hb.mono h.le)];rfl
theorem Wk.bool(h:x.Wk S Z a tm wq w){k:Nat}{t:Bool}(hk:a.tmps[k]?=some (.bool t)):tm[k]?.getD qgd=.bool t:=by
 letI:JunkSet:=x.js
 obtain⟨y,hy,hv⟩:=@AsR.get x.js _ _ _ h.rel.tm k _ hk;rw[hy];cases hv;rfl
theorem Wk.tsz(h:x.Wk S Z a tm wq w):tm.size=60:=by
 letI:JunkSet:=x.js
 have h1:=h.rel.tm.1;rw[<- h1];exact h.sz
theorem Ok.fz(o:x.Ok){b:Nat}(hb:b∈x.nds):x.Fz b:=by
 obtain⟨cs,e,f,h,_⟩:=o.nok b hb;exact⟨(qg8.1 h).1,o.nro b hb⟩
theorem Ok.dj(o:x.Ok):∀b∈x.nds,b∉x.jks:=λb hb hj=>by
 have h1:=o.nro b hb;rw[o.sync b hj] at h1;cases h1
theorem Ok.ndlt(o:x.Ok){b:Nat}(hb:b∈x.nds):b<x.W1.heap.size:=(o.fz hb).1
theorem Ok.t1(o:x.Ok)(h:x.Wk S Z a tm wq w):tm[1]?.getD qgd=pt x.Nx:=h.ptr ((h.cap 1 (by omega)).trans (by simp[tmp0,tm0,qk1])) (br0 (.inr (by simp[jks])) (o.jlt _ (by simp[jks])))
theorem Ok.t2(o:x.Ok)(h:x.Wk S Z a tm wq w):tm[2]?.getD qgd=pt x.A:=h.ptr ((h.cap 2 (by omega)).trans (by simp[tmp0,tm0,qk1])) (br0 (.inl o.nA) (o.ndlt o.nA))
theorem Ok.t3(o:x.Ok)(h:x.Wk S Z a tm wq w):tm[3]?.getD qgd=pt x.Fd:=h.ptr ((h.cap 3 (by omega)).trans (by simp[tmp0,tm0,qk1])) (br0 (.inr (by simp[jks])) (o.jlt _ (by simp[jks])))
theorem Ok.cellA(o:x.Ok)(h:x.Cm w):w.cell? ⟨x.A,0,none⟩=some (.slice x.ab x.N x.ac):=q8 ((h.fz _ (o.fz o.nA)).trans o.hA) rfl
theorem Ok.vrA(o:x.Ok):@VR x.js x.r0 (.slice x.ab x.N x.ac) (.slice x.ab x.N x.ac):=by
 obtain⟨cs,e,f,h,hv⟩:=o.nok _ o.nA;rw[o.hA] at h;cases h;exact hv 0 _ rfl
end
end Ph4
end Go.Proofs.YtidgnkmjgioapaaGreat
end
section
namespace Go.Proofs.YtidgnkmjgioapaaGreat
open Go Go.RowKit Go.Conc Go.ConcN Go.ConcN.Gen Go.Conc.Lib Go.ConcR.Gen Go.Co Go.Sim
theorem Qa{w:qg7}{b o:Nat}{cs:Array qgb}{e:qgt}(h:w.heap[b]?=some (.cells cs e (0,0))):w.frozen? ⟨b,o,none⟩=false:=by
 simp[qk4,h]
theorem qcq{n:Nat}(h:n<=1000001):IntKind.i64.wrap (n:Int)=n:=qgH _ (by omega)
namespace Ph4
theorem qd0(j:Nat)(ls:Nat->Lam):xq j ls<=j:=by
 induction j with
 | zero=>exact qg9 _
 | succ j ih=>unfold xq;split<;>omega
section
variable{x:Ph4}(o:x.Ok){S:Bs}{w:qg7}{Z:Ren}{a:Act}{tm:Array qgb}{wq:qg7}
include o
theorem Ok.fzne{b:Nat}(hb:x.Fz b){j:Nat}(hj:j∈x.jks):b≠j:=by
 rintro rfl;have h:=hb.2;rw[o.sync _ hj] at h;cases h
theorem Ok.after(hc:x.Cm w){b:Nat}(hb:b=x.Nx\/b=x.Fd)(v:qgb){γ':Nat × Bool}(hd:x.DataAt γ' (w.setCell ⟨b,0,none⟩ v)):x.Cm (w.setCell ⟨b,0,none⟩ v) where
 liv:=by
  obtain⟨st,sm,hw⟩:=hc.liv.1;refine⟨⟨st,sm,?_⟩,γ',hd⟩;show(w.setCell ⟨b,0,none⟩ v).heap[x.Wg]?=_;rw[qka _ _ _ _ (by rcases hb with rfl | rfl;exact o.ne2;exact o.ne3)];exact hw
 fz:=λc a6=>by
  rw[qka _ _ _ _ (o.fzne a6 (by rcases hb with rfl | rfl<;>simp[jks]))];exact hc.fz c a6
 size:=by simpa using hc.size
 os:=hc.os
theorem Ok.wkafter(hc:x.Cm w)(h:x.Wk S Z a tm wq w){b:Nat}(hb:b=x.Nx\/b=x.Fd)(v:qgb)(hl:x.Liv (w.setCell ⟨b,0,none⟩ v)):x.Wk S Z a tm wq (w.setCell ⟨b,0,none⟩ v):=by
 letI:JunkSet:=x.js
 have a7:b∈x.jks:=by rcases hb with rfl | rfl<;>simp[jks]
 refine h.to (λc a6=>?_) (by simp) rfl hl;refine qka _ _ _ _ ?_;rcases a6 with a6 | a6
 ·exact o.fzne a6 a7
 ·rintro rfl;exact h.rel.js _ (o.jlt _ a7) a6
theorem Ok.sync1{l:Lam}(hl:l=.st\/∃i,l=.wk i/\x.bad i=false)(hc:x.Cm w)(h:x.Wk S Z a tm wq w) :x.cfg.Stop l S (G ((qgA 141).at ⟨#[pt x.Nx,.int .i64 1,qgd,qgd,.int .i64 0,pt x.Nx,pt x.Nx,pt x.Nx,.int .i64 1,qgd],[]⟩ [.inRegion Z2 [4,5],.code .ret]) (f1 tm (dn x.Wg)::[bot])) w:=by
 refine⟨rfl,.inr ⟨by rcases hl with rfl | ⟨i,rfl,_⟩<;>exact id,?_⟩⟩;rintro⟨c,b⟩ hd ⟨j,ls,hj,hJ⟩;have hγ:c<=x.N+4:=by
  have h1:c<=x.N+xq j ls:=hJ.1;have h3:=qd0 j ls;have h2:j<=min 4 x.N:=hj;omega
 have hN:=o.hN;obtain⟨d1,d2⟩:=hd;have hcell:w.cell? ⟨x.Nx,0,none⟩=some (.int .i64 c):=q8 d1 rfl;have hz:=Qa (o:=0) d1;have a8:IntKind.i64.wrap ((c:Int)+1)=c+1:=by have:=qcq (n:=c+1) (by omega);simpa using this
 have a7:x.DataAt (c+1,b) (w.setCell ⟨x.Nx,0,none⟩ (.int .i64 (c+1))):=by
  refine⟨?_,?_⟩
  ·rw[qnz _ _ _ _ _ _ d1];simp
  ·rw[qka _ _ _ _ (Ne.symm o.ne1)];exact d2
 have a6:=o.after hc (.inl rfl) (.int .i64 (c+1)) a7;have hk':=o.wkafter hc h (.inl rfl) (.int .i64 (c+1)) a6.liv;refine⟨G ((qgA 141).at ⟨#[pt x.Nx,.int .i64 1,qgd,qgd,.int .i64 0,pt x.Nx,pt x.Nx,pt x.Nx,.int .i64 1,.int .i64 (c+1)],[]⟩ [.inRegion Z2 [5],.code .ret]) (f1 tm (dn x.Wg)::[bot]),w.setCell ⟨x.Nx,0,none⟩ (.int .i64 (c+1)),#[⟨.cell ⟨x.Nx,0,none⟩,false,true⟩,⟨.cell ⟨x.Nx,0,none⟩,true,true⟩],(c+1,b),if c<x.N then .ld c else .fn,?_,λc hcs=>qka _ _ _ _ λe=>hcs (.inl e),by simp,rfl,rfl,?_,a7,.inl ⟨hl,rfl,rfl⟩,?_⟩
 ·refine(qkB (o:=Z2[4]'(by simp only[Z2,qn2,qgh,sqA,sqB,qJ];decide)) (by simp) (by simp only[Z2,qn2,qgh,sqA,sqB,qJ];rfl) (by k_ne) (by simp only[Z2,qn2,qgh,sqA,sqB,qJ];rfl) Tryz.func179 (by kernel_rfl) (by kernel_rfl) (by kernel_rfl) .i64 (by kernel_rfl) rfl rfl hcell hz).trans ?_;rw[a8];simp only[Z2,qn2,qgh,sqA,sqB,qJ];rfl
 ·intro e he;simp at he;rcases he with rfl | rfl
  ·exact⟨_,_,rfl,.inl rfl⟩
  ·exact⟨_,_,rfl,.inl rfl⟩
 ·show x.WA _ _ _ _;split
  ·rename_i hlt
   exact⟨a6,hlt,Z,a,tm,wq,hk',rfl⟩
  ·rename_i hge
   exact⟨a6,Z,a,tm,wq,hk',.inl ⟨c,by omega,by omega,rfl⟩⟩
theorem Ok.sync2{i:Nat}(hi:i<x.N)(hc:x.Cm w)(h:x.Wk S Z a tm wq w)(h7:a.tmps[7]?=some (.int .i64 i))(a6:a.tmps[18]?=some (.bool false)) :x.cfg.Stop (.ld i) S (G ((qgA 142).at ⟨#[pt x.Fd,qgd,.bool false,pt x.Fd,pt x.Fd,pt x.Fd,qgd,qgd],[]⟩ [.inRegion Z1 [3,4,5],.code .ret]) (f2 tm (dn x.Wg)::[bot])) w:=by
 refine⟨rfl,.inr ⟨id,?_⟩⟩;rintro⟨c,b⟩ hd ⟨j,ls,hj,hJ⟩;have a7:=hd;obtain⟨d1,d2⟩:=hd;have hcell:w.cell? ⟨x.Fd,0,none⟩=some (.int .u32 (if b then 1 else 0)):=q8 d2 rfl;refine⟨G ((qgA 142).at ⟨#[pt x.Fd,qgd,.bool false,pt x.Fd,pt x.Fd,pt x.Fd,.int .u32 (if b then 1 else 0),qgd],[]⟩ [.inRegion Z1 [4,5],.code .ret]) (f2 tm (dn x.Wg)::[bot]),w,#[⟨.cell ⟨x.Fd,0,none⟩,false,true⟩],(c,b),if b then .fn else .wk i,?_,λc hcs=>rfl,rfl,rfl,rfl,?_,a7,.inr (.inl ⟨i,rfl,rfl,rfl⟩),?_⟩
 ·refine(ql4 (o:=Z1[3]'(by simp only[Z1,qms,qgh,sqA,sqB,qJ];decide)) (by simp) (by simp only[Z1,qms,qgh,sqA,sqB,qJ];rfl) (by k_ne) (by simp only[Z1,qms,qgh,sqA,sqB,qJ];rfl) Tryz.func180 (by kernel_rfl) (by kernel_rfl) (by kernel_rfl) .u32 (by kernel_rfl) rfl hcell).trans ?_;simp only[Z1,qms,qgh,sqA,sqB,qJ];rfl
 ·intro e he;simp at he;subst he;exact⟨_,_,rfl,.inr rfl⟩
 ·show x.WA _ _ _ _;cases b with
  | true=>exact⟨hc,Z,a,tm,wq,h,.inr ⟨a6,rfl⟩⟩
  | false=>exact⟨hc,hi,Z,a,tm,wq,h,h7,a6,rfl⟩
theorem Ok.sync3{i:Nat}(hi:i<x.N)(hb:x.bad i=true)(hc:x.Cm w)(h:x.Wk S Z a tm wq w) :x.cfg.Stop (.wk i) S (G ((qgA 143).at ⟨#[pt x.Fd,.bool true,qgd,qgd,pt x.Fd,pt x.Fd,pt x.Fd,.bool true,.int .u32 1,qgd],[]⟩ [.inRegion JJ [5]]) (f10 tm (dn x.Wg)::[bot])) w:=by
 refine⟨rfl,.inr ⟨id,?_⟩⟩;rintro⟨c,b⟩ hd ⟨j,ls,hj,hJ⟩;obtain⟨d1,d2⟩:=hd;have hcell:w.cell? ⟨x.Fd,0,none⟩=some (.int .u32 (if b then 1 else 0)):=q8 d2 rfl;have hz:=Qa (o:=0) d2;have a6:x.DataAt (c,true) (w.setCell ⟨x.Fd,0,none⟩ (.int .u32 1)):=by
  refine⟨?_,?_⟩
  ·rw[qka _ _ _ _ o.ne1];exact d1
  ·rw[qnz _ _ _ _ _ _ d2];simp
 have a7:=o.after hc (.inr rfl) (.int .u32 1) a6;have hk':=o.wkafter hc h (.inr rfl) (.int .u32 1) a7.liv;refine⟨G ((qgA 143).at ⟨#[pt x.Fd,.bool true,qgd,qgd,pt x.Fd,pt x.Fd,pt x.Fd,.bool true,.int .u32 1,.tuple #[]],[]⟩ [.inRegion JJ []]) (f10 tm (dn x.Wg)::[bot]),w.setCell ⟨x.Fd,0,none⟩ (.int .u32 1),#[⟨.cell ⟨x.Fd,0,none⟩,true,true⟩],(c,true),.st,?_,λc hcs=>qka _ _ _ _ λe=>hcs (.inr e),by simp,rfl,rfl,?_,a6,.inr (.inr ⟨i,rfl,hb,hi,rfl,rfl⟩),?_⟩
 ·refine(stepG_store_atomic (o:=JJ[5]'(by simp only[JJ,qnl,qgh,sqA,sqB,qJ];decide)) (by simp) (by simp only[JJ,qnl,qgh,sqA,sqB,qJ];rfl) (by k_ne) (by simp only[JJ,qnl,qgh,sqA,sqB,qJ];rfl) Tryz.func181 (by kernel_rfl) (by kernel_rfl) (by kernel_rfl) (by kernel_rfl) rfl rfl hcell hz).trans ?_;simp only[JJ,qnl,qgh,sqA,sqB,qJ];rfl
 ·intro e he;simp at he;subst he;exact⟨_,_,rfl,.inr rfl⟩
 ·exact(⟨a7,.inr ⟨Z,a,tm,wq,hk',rfl⟩⟩:x.WA .st S _ _)
end
end Ph4
end Go.Proofs.YtidgnkmjgioapaaGreat
end
section
namespace Go.Proofs.YtidgnkmjgioapaaGreat
open Go Go.RowKit Go.Conc Go.ConcN Go.ConcN.Gen Go.Conc.Lib Go.ConcR.Gen Go.Co Go.Sim
theorem qbj[JunkSet]{Z:Ren}{t:Array qgb}(h:∀v∈t,VR Z v v):AsR Z t t:=⟨rfl,λi u v hu hv=>by
 rw[hu] at hv;cases hv;exact h u (qi5 hu)⟩
theorem qf2:wX=.seq wR3 (.seq wR4 (.seq wR9 q2b)):=by kernel_rfl
theorem ck3:yX Tp.prog ls wR3=true:=by kernel_rfl
theorem ck4:yX Tp.prog ls wR4=true:=by kernel_rfl
theorem ck9:yX Tp.prog ls wR9=true:=by kernel_rfl
theorem hrr(fr:qgm):qgE fr [bot]=none:=by
 unfold qgE;split
 ·rename_i h
  cases h;simp[bot,qov]
 ·rename_i h
  cases h;have:qgE bot []=none:=by
   unfold qgE;rfl
  rw[this];rfl
 ·rfl
namespace Ph4
section
variable{x:Ph4}(o:x.Ok){S:Bs}{w:qg7}{Z:Ren}{a:Act}{tm:Array qgb}{wq:qg7}
include o
theorem Ok.born(hc:x.Cm w)(hS:∀b,¬ S b):x.Wk S x.r0 ⟨x.tmp0,[]⟩ x.tmp0 x.w0 w:=by
 letI:JunkSet:=x.js
 refine⟨⟨by simp[r0,Go.Co.lr],?_,λi hi=>?_,?_,rfl,⟨λi j h _ hj=>?_,λi j h hb=>?_⟩,λi j h hj=>?_,λj _=>hS j⟩,Le.refl _,qgn _ _,by simp[tmp0,tm0],λ_ _=>rfl⟩
 ·exact qfj (λi=>Iff.rfl) (by kernel_rfl) o.dj (λb hb=>o.ndlt hb) o.jlt o.nok (λb hb=>hc.fz b (o.fz hb)) hc.size hc.os λb hb=>hc.liv.cells hb
 ·have h0:Tryz.prog.globals.size=0:=by kernel_rfl
  have:i=0:=by omega
  subst this;exact br0 (.inl o.n0) (o.ndlt o.n0)
 ·refine qbj λv hv=>?_;have hp:∀b,b∈x.nds\/b∈x.jks->VR x.r0 (pt b) (pt b):=λb hb=>.ptr 0 none (br0 hb (hb.elim (λh=>o.ndlt h) λh=>o.jlt _ h));simp only[tmp0,tm0,qjA,Array.mem_replicate,qjC,qhH,qif,or_false] at hv;rcases hv with(rfl | rfl | rfl | rfl | rfl | rfl | rfl) | ⟨_,rfl⟩
  ·exact hp _ (.inr (by simp[jks]))
  ·exact hp _ (.inr (by simp[jks]))
  ·exact hp _ (.inl o.nA)
  ·exact hp _ (.inr (by simp[jks]))
  ·exact hp _ (.inl o.nY)
  ·exact hp _ (.inl o.nV)
  ·exact hp _ (.inl o.nB)
  ·exact kr _
 ·obtain⟨h1,rfl,h2⟩:=JB.1 h;rcases h2 with h2 | h2
  ·exact o.fz h2
  ·exact absurd h2 hj
 ·obtain⟨h1,rfl,h2⟩:=JB.1 h;omega
 ·obtain⟨h1,rfl,h2⟩:=JB.1 h;exact hj
theorem Ok.piece{Stop:Bs->qgc->qg7->Prop}(hSo:∀S g w off,Stop S g w->Stop S { g with offers:=off } w){c:qiw}(hco:yX Tp.prog ls c=true){k:List qkl}(hc:x.Cm w)(h:x.Wk S Z a tm wq w){R:Act->qg7->Prop}(hwp:∀T,c.wp Tp.prog (yj R) a (wq.tp T))(hR:∀a' u,R a' u->a'.defers=[]/\a'.tmps.size=60/\(∀k,k<7->a'.tmps[k]?=x.tmp0[k]?)/\x.w0.grownBy (u.tp x.w0.tape) none)(hend:∀S' ρ' a' tm' wq' w',R a' wq'->x.Cm w'->x.Wk S' ρ' a' tm' wq' w'->qk qgr x.Fz x.cfg.K Stop S' (G ((qi0 139).at ⟨tm',dn x.Wg⟩ k) [bot]) w') :qk qgr x.Fz x.cfg.K Stop S (G ((qi0 139).at ⟨tm,dn x.Wg⟩ (.code c::k)) [bot]) w:=by
 letI:JunkSet:=x.js
 refine qk.piece (J:=x.js) (qdo x.jk) (X:=⟨JS Tp.prog Tp.prog ls x.jk⟩) (up x.jk) (qdn x.jk) hrf hrr q9b x.jk (λb=>b<x.W1.heap.size) x.Cm (λS w w₁ r hw=>hw.rely r) (λS w w' es hd hk hw=>?_) (λw b hw hb=>hw.liv.cells hb) (λw b hw hb=>qgp hb hw.size) hSo (b:=qi0 139) ?_ (by kernel_rfl) rfl (q40 (λ_ h=>h) (λ_ h=>h) (λ_ _ h=>h) hco) h.rel hc hwp (λa' u hr=>(hR a' u hr).1) ?_
 ·refine⟨⟨?_,?_⟩,λb hb=>(hk b hb.1).trans (hw.fz b hb),qgi hw.size hd.size,hd.os.trans hw.os⟩
  ·obtain⟨st,sm,hg⟩:=hw.liv.1;exact⟨st,sm,(hk _ (o.jlt _ (by simp[jks]))).trans hg⟩
  ·obtain⟨W,h1,h2⟩:=hw.liv.2;exact⟨W,(hk _ (o.jlt _ (by simp[jks]))).trans h1,(hk _ (o.jlt _ (by simp[jks]))).trans h2⟩
 ·refine⟨_,(z6 139 (by decide)).trans qod,qod⟩
 ·intro ρ' a' tm' wq' w' S' hr hle hrel hcm;obtain⟨h1,h2,h3,h4⟩:=hR _ _ hr;exact hend S' ρ' a' tm' wq' w' hr hcm ⟨hrel,h.le.trans hle,h4,h2,h3⟩
end
end Ph4
end Go.Proofs.YtidgnkmjgioapaaGreat
end
section
namespace Go.Proofs.YtidgnkmjgioapaaGreat
open Go Go.RowKit Go.Conc Go.ConcN Go.ConcN.Gen Go.Conc.Lib Go.ConcR.Gen Go.Co Go.Sim
theorem qbk(z:Array qgb)(h:z.size=60):z=#[z[0]?.getD qgd,z[1]?.getD qgd,z[2]?.getD qgd,z[3]?.getD qgd,z[4]?.getD qgd,z[5]?.getD qgd,z[6]?.getD qgd,z[7]?.getD qgd,z[8]?.getD qgd,z[9]?.getD qgd,z[10]?.getD qgd,z[11]?.getD qgd,z[12]?.getD qgd,z[13]?.getD qgd,z[14]?.getD qgd,z[15]?.getD qgd,z[16]?.getD qgd,z[17]?.getD qgd,z[18]?.getD qgd,z[19]?.getD qgd,z[20]?.getD qgd,z[21]?.getD qgd,z[22]?.getD qgd,z[23]?.getD qgd,z[24]?.getD qgd,z[25]?.getD qgd,z[26]?.getD qgd,z[27]?.getD qgd,z[28]?.getD qgd,z[29]?.getD qgd,z[30]?.getD qgd,z[31]?.getD qgd,z[32]?.getD qgd,z[33]?.getD qgd,z[34]?.getD qgd,z[35]?.getD qgd,z[36]?.getD qgd,z[37]?.getD qgd,z[38]?.getD qgd,z[39]?.getD qgd,z[40]?.getD qgd,z[41]?.getD qgd,z[42]?.getD qgd,z[43]?.getD qgd,z[44]?.getD qgd,z[45]?.getD qgd,z[46]?.getD qgd,z[47]?.getD qgd,z[48]?.getD qgd,z[49]?.getD qgd,z[50]?.getD qgd,z[51]?.getD qgd,z[52]?.getD qgd,z[53]?.getD qgd,z[54]?.getD qgd,z[55]?.getD qgd,z[56]?.getD qgd,z[57]?.getD qgd,z[58]?.getD qgd,z[59]?.getD qgd]:=by
 obtain⟨y0,y1,y2,y3,y4,y5,y6,y7,y8,y9,y10,y11,y12,y13,y14,y15,y16,y17,y18,y19,y20,y21,y22,y23,y24,y25,y26,y27,y28,y29,y30,y31,y32,y33,y34,y35,y36,y37,y38,y39,y40,y41,y42,y43,y44,y45,y46,y47,y48,y49,y50,y51,y52,y53,y54,y55,y56,y57,y58,y59,rfl⟩:=YI z h;rfl
theorem q3p{w0 wq w':qg7}{T:Nat->qih->Nat}(h:w0.grownBy (wq.tp w0.tape) none)(hg:(wq.tp T).grownBy w' none):w0.grownBy (w'.tp w0.tape) none :=
 ⟨hg.os.trans h.os,rfl,hg.output.trans h.output,qgi h.size hg.size,λk hk hn=>(hg.block k (qgp hk h.size) hn).trans (h.block k hk hn)⟩
theorem qas{w0 wq:qg7}(T:Nat->qih->Nat)(h:w0.grownBy (wq.tp w0.tape) none):(w0.tp T).grownBy (wq.tp T) none:=⟨h.os,rfl,h.output,h.size,h.block⟩
theorem qfp{w0 w':qg7}{T:Nat->qih->Nat}(h:(w0.tp T).grownBy w' none):w0.grownBy (w'.tp w0.tape) none:=⟨h.os,rfl,h.output,h.size,h.block⟩
theorem qb9{z z0:Array qgb}(hz:z.size=60)(hc:∀k,k<7->z[k]?=z0[k]?)(k:Nat)(hk:k<7):z0[k]?=some (z[k]?.getD qgd):=by
 rw[<- hc k hk,qgC (by omega)];rfl
namespace Ph4
section
variable{x:Ph4}(o:x.Ok){S:Bs}{w:qg7}{Z:Ren}{a:Act}{tm:Array qgb}{wq:qg7}
structure Base(x:Ph4)(i:Nat)(a:Act)(u:qg7):Prop where
 df:a.defers=[]
 sz:a.tmps.size=60
 cap:∀k,k<7->a.tmps[k]?=x.tmp0[k]?
 gr:x.w0.grownBy (u.tp x.w0.tape) none
 i7:a.tmps[7]?=some (.int .i64 i)
def Rows(x:Ph4)(g h:Nat->Int)(a:Act)(u:qg7):Prop:=∃B1 B2,a.tmps[8]?=some (.pointer (some ⟨B1,0,none⟩))/\a.tmps[9]?=some (.pointer (some ⟨B2,0,none⟩))/\u.heap[B1]?=some (qF g)/\u.heap[B2]?=some (qF h)/\B1≠B2/\x.w0.heap.size<=B1/\x.w0.heap.size<=B2
theorem Wk.df(h:x.Wk S Z a tm wq w):a.defers=[]:=by
 letI:JunkSet:=x.js
 exact h.rel.df
include o
theorem Ok.capv(h:x.Wk S Z a tm wq w)(k b:Nat)(hk:k<7)(e:x.tmp0[k]?=some (pt b)):a.tmps[k]?.getD qgd=.pointer (some ⟨b,0,none⟩):=by
 rw[h.cap k hk,e];rfl
theorem Ok.w0s:x.w0.heap.size=x.W1.heap.size:=q6i
theorem Ok.wp3(h:x.Wk S Z a tm wq w){i:Nat}(h7:a.tmps[7]?=some (.int .i64 i))(T:Nat->qih->Nat) :wR3.wp Tp.prog (yj λa u=>x.Base i a u/\x.Rows x.gn x.gx a u) a (wq.tp T):=by
 have a6:=h.df;obtain⟨z,d⟩:=a;have a6:d=[]:=a6;subst a6;have h4:z[4]?.getD qgd=.pointer (some ⟨x.Y,0,none⟩):=o.capv h 4 x.Y (by omega) (by simp[tmp0,tm0]);have hc:=qb9 h.sz h.cap;have hsz:z.size=60:=h.sz;have a7:z[7]?=some (.int .i64 i):=h7;have hg:=qas T h.gr;have hP:qr 0 x.W1.heap.size (wq.tp T) (.slice x.yb x.ps.length x.yc) x.ps:=(show qr 0 x.W1.heap.size (x.w0.tp T) (.slice x.yb x.ps.length x.yc) x.ps from q6j (Q:=Tp.prog) (jks:=x.jks) o.pars o.dj o.nyb).kept hg (by simp);have hlt:=o.ndlt o.nY;have b0:(wq.tp T).cell? ⟨x.Y,0,none⟩=some (.slice x.yb x.ps.length x.yc):=hg.cell (xd o.nY (o.dj _ o.nY) o.hY rfl) (by simp);have a9:(wq.tp T).cell? ⟨x.Y,1,none⟩=some (.int .i64 x.lim):=hg.cell (xd o.nY (o.dj _ o.nY) o.hY rfl) (by simp);have hs:x.W1.heap.size<=(wq.tp T).heap.size:=by rw[<- o.w0s];exact hg.size
 generalize ht:(λk:Nat=>z[k]?.getD qgd)=t;have hz:z=#[t 0,t 1,t 2,t 3,t 4,t 5,t 6,t 7,t 8,t 9,t 10,t 11,t 12,t 13,t 14,t 15,t 16,t 17,t 18,t 19,t 20,t 21,t 22,t 23,t 24,t 25,t 26,t 27,t 28,t 29,t 30,t 31,t 32,t 33,t 34,t 35,t 36,t 37,t 38,t 39,t 40,t 41,t 42,t 43,t 44,t 45,t 46,t 47,t 48,t 49,t 50,t 51,t 52,t 53,t 54,t 55,t 56,t 57,t 58,t 59]:=by subst ht;exact qbk z hsz
 have h4:t 4=.pointer (some ⟨x.Y,0,none⟩):=by subst ht;exact h4
 have hc:∀k,k<7->x.tmp0[k]?=some (t k):=by subst ht;exact hc
 have a7:t 7=.int .i64 i:=by subst ht;show z[7]?.getD qgd=_;rw[a7];rfl
 rw[hz];refine qeb 0 x.W1.heap.size t (wq.tp T) _ x.ps x.lim x.Y x.yb x.yc h4 hP hs o.n5 b0 a9 (by omega) λB1 B2 w' _ _ _ _ a8 b7 b6 hne hb1 b9=>?_;have b8:x.w0.heap.size<=(wq.tp T).heap.size:=by rw[o.w0s];exact hs
 refine⟨⟨rfl,rfl,λk hk=>?_,q3p h.gr a8,by rw[<- a7];rfl⟩,B1,B2,rfl,rfl,b7,b6,hne,by omega,by omega⟩;rw[hc k hk];obtain rfl | rfl | rfl | rfl | rfl | rfl | rfl:k=0\/k=1\/k=2\/k=3\/k=4\/k=5\/k=6:=by omega
 all_goals first | rfl | (rw[h4];rfl)
theorem Ok.wp4(h:x.Wk S Z a tm wq w){i:Nat}(hi:i<x.N)(hb:x.Base i a wq)(hr:x.Rows x.gn x.gx a wq)(T:Nat->qih->Nat) :wR4.wp Tp.prog (yj λa u=>x.Base i a u/\x.Rows (ovr (x.c i) x.gn x.wl x.wl.length) (ovr (x.c i) x.gx x.wl x.wl.length) a u) a (wq.tp T):=by
 obtain⟨B1,B2,h8,h9,b7,b6,hne,hb1,a7⟩:=hr;have a6:=h.df;obtain⟨z,d⟩:=a;have a6:d=[]:=a6;subst a6;have hY:=o.capv h 4 x.Y (by omega) (by simp[tmp0,tm0]);have hA:=o.capv h 2 x.A (by omega) (by simp[tmp0,tm0]);have hV:=o.capv h 5 x.V (by omega) (by simp[tmp0,tm0]);have hB:=o.capv h 6 x.B (by omega) (by simp[tmp0,tm0]);have hc:=qb9 h.sz h.cap;have hsz:z.size=60:=h.sz;have h7:z[7]?=some (.int .i64 i):=hb.i7;have h8:z[8]?=some (.pointer (some ⟨B1,0,none⟩)):=h8;have h9:z[9]?=some (.pointer (some ⟨B2,0,none⟩)):=h9;have hg:=qas T h.gr;have hs:x.W1.heap.size<=(x.w0.tp T).heap.size:=qj6 o.w0s.symm;generalize ht:(λk:Nat=>z[k]?.getD qgd)=t;have hz:z=#[t 0,t 1,t 2,t 3,t 4,t 5,t 6,t 7,t 8,t 9,t 10,t 11,t 12,t 13,t 14,t 15,t 16,t 17,t 18,t 19,t 20,t 21,t 22,t 23,t 24,t 25,t 26,t 27,t 28,t 29,t 30,t 31,t 32,t 33,t 34,t 35,t 36,t 37,t 38,t 39,t 40,t 41,t 42,t 43,t 44,t 45,t 46,t 47,t 48,t 49,t 50,t 51,t 52,t 53,t 54,t 55,t 56,t 57,t 58,t 59]:=by subst ht;exact qbk z hsz
 have hY:t 4=.pointer (some ⟨x.Y,0,none⟩):=by subst ht;exact hY
 have hA:t 2=.pointer (some ⟨x.A,0,none⟩):=by subst ht;exact hA
 have hV:t 5=.pointer (some ⟨x.V,0,none⟩):=by subst ht;exact hV
 have hB:t 6=.pointer (some ⟨x.B,0,none⟩):=by subst ht;exact hB
 have hc:∀k,k<7->x.tmp0[k]?=some (t k):=by subst ht;exact hc
 have h7:t 7=.int .i64 i:=by subst ht;show z[7]?.getD qgd=_;rw[h7];rfl
 have h8:t 8=.pointer (some ⟨B1,0,none⟩):=by subst ht;show z[8]?.getD qgd=_;rw[h8];rfl
 have h9:t 9=.pointer (some ⟨B2,0,none⟩):=by subst ht;show z[9]?.getD qgd=_;rw[h9];rfl
 rw[hz];refine qea 0 x.W1.heap.size t (x.w0.tp T) (wq.tp T) _ x.A x.V _ x.vv x.N i x.c x.wl B1 B2 x.gn x.gx hA (xd o.nA (o.dj _ o.nA) o.hA rfl) (qad (Q:=Tp.prog) (jks:=x.jks) o.cas o.dj o.nab) hV (xd o.nV (o.dj _ o.nV) o.hV rfl) (q6l (Q:=Tp.prog) (jks:=x.jks) o.ints o.dj o.nvv) h7 hi h8 h9 hg b7 b6 hne hb1 a7 hs o.hwl ?_;intro _ _ _ _ _ _ _ _ _ _ _ _ _ _ _ _ _ _ _ _ _ _ _ _ w' a8 b0 a9;refine⟨⟨rfl,rfl,λk hk=>?_,qfp a8,rfl⟩,B1,B2,rfl,rfl,b0,a9,hne,hb1,a7⟩;rw[hc k hk];obtain rfl | rfl | rfl | rfl | rfl | rfl | rfl:k=0\/k=1\/k=2\/k=3\/k=4\/k=5\/k=6:=by omega
 all_goals first | rfl | (rw[hA];rfl) | (rw[hV];rfl)
theorem Ok.wp9(h:x.Wk S Z a tm wq w){i:Nat}(hi:i<x.N)(hb:x.Base i a wq)(hr:x.Rows (ovr (x.c i) x.gn x.wl x.wl.length) (ovr (x.c i) x.gx x.wl x.wl.length) a wq)(T:Nat->qih->Nat) :wR9.wp Tp.prog (yj λa u=>x.Base i a u/\a.tmps[58]?=some (.bool (x.bad i))) a (wq.tp T):=by
 obtain⟨B1,B2,h8,h9,a9,a8,hne,hb1,b0⟩:=hr;have a6:=h.df;obtain⟨z,d⟩:=a;have a6:d=[]:=a6;subst a6;have hY:=o.capv h 4 x.Y (by omega) (by simp[tmp0,tm0]);have hA:=o.capv h 2 x.A (by omega) (by simp[tmp0,tm0]);have hV:=o.capv h 5 x.V (by omega) (by simp[tmp0,tm0]);have hB:=o.capv h 6 x.B (by omega) (by simp[tmp0,tm0]);have hc:=qb9 h.sz h.cap;have hsz:z.size=60:=h.sz;have h7:z[7]?=some (.int .i64 i):=hb.i7;have h8:z[8]?=some (.pointer (some ⟨B1,0,none⟩)):=h8;have h9:z[9]?=some (.pointer (some ⟨B2,0,none⟩)):=h9;have hg:=qas T h.gr;have hs:x.W1.heap.size<=(x.w0.tp T).heap.size:=qj6 o.w0s.symm;generalize ht:(λk:Nat=>z[k]?.getD qgd)=t;have hz:z=#[t 0,t 1,t 2,t 3,t 4,t 5,t 6,t 7,t 8,t 9,t 10,t 11,t 12,t 13,t 14,t 15,t 16,t 17,t 18,t 19,t 20,t 21,t 22,t 23,t 24,t 25,t 26,t 27,t 28,t 29,t 30,t 31,t 32,t 33,t 34,t 35,t 36,t 37,t 38,t 39,t 40,t 41,t 42,t 43,t 44,t 45,t 46,t 47,t 48,t 49,t 50,t 51,t 52,t 53,t 54,t 55,t 56,t 57,t 58,t 59]:=by subst ht;exact qbk z hsz
 have hY:t 4=.pointer (some ⟨x.Y,0,none⟩):=by subst ht;exact hY
 have hA:t 2=.pointer (some ⟨x.A,0,none⟩):=by subst ht;exact hA
 have hV:t 5=.pointer (some ⟨x.V,0,none⟩):=by subst ht;exact hV
 have hB:t 6=.pointer (some ⟨x.B,0,none⟩):=by subst ht;exact hB
 have hc:∀k,k<7->x.tmp0[k]?=some (t k):=by subst ht;exact hc
 have h7:t 7=.int .i64 i:=by subst ht;show z[7]?.getD qgd=_;rw[h7];rfl
 have h8:t 8=.pointer (some ⟨B1,0,none⟩):=by subst ht;show z[8]?.getD qgd=_;rw[h8];rfl
 have h9:t 9=.pointer (some ⟨B2,0,none⟩):=by subst ht;show z[9]?.getD qgd=_;rw[h9];rfl
 rw[hz];have ob:∀(g:Nat->Int),(∀d,0<=g d/\g d<=1000)->∀d,0<=ovr (x.c i) g x.wl x.wl.length d/\ovr (x.c i) g x.wl x.wl.length d<=1000:=λg hg d=>by
  unfold ovr;split
  ·exact o.bc i d
  ·exact hg d
 refine qe9 0 x.W1.heap.size t (x.w0.tp T) (wq.tp T) _ x.Y x.B x.yb x.yc x.pv x.ps x.lim x.l B1 B2 _ _ hY (xd o.nY (o.dj _ o.nY) o.hY rfl) (xd o.nY (o.dj _ o.nY) o.hY rfl) (q6j (Q:=Tp.prog) (jks:=x.jks) o.pars o.dj o.nyb) hB (xd o.nB (o.dj _ o.nB) o.hB rfl) (q6l (Q:=Tp.prog) (jks:=x.jks) o.intp o.dj o.npv) h8 h9 hg a9 a8 hs o.n5 o.hl o.ll (ob _ o.bmn) (ob _ o.bmx) ?_;intro _ _ _ _ _ _ _ _ _ _ w' a7;refine⟨⟨rfl,rfl,λk hk=>?_,q3p h.gr a7,by rw[<- h7];rfl⟩,rfl⟩;rw[hc k hk];obtain rfl | rfl | rfl | rfl | rfl | rfl | rfl:k=0\/k=1\/k=2\/k=3\/k=4\/k=5\/k=6:=by omega
 all_goals first | rfl | (rw[hY];rfl) | (rw[hB];rfl)
theorem Ok.walk{Stop:Bs->qgc->qg7->Prop}(hSo:∀S g w off,Stop S g w->Stop S { g with offers:=off } w){i:Nat}(hi:i<x.N)(hc:x.Cm w)(h:x.Wk S Z a tm wq w)(h7:a.tmps[7]?=some (.int .i64 i))(hend:∀S' ρ' a' tm' wq' w',x.Cm w'->x.Wk S' ρ' a' tm' wq' w'->a'.tmps[58]?=some (.bool (x.bad i))->qk qgr x.Fz x.cfg.K Stop S' (G ((qi0 139).at ⟨tm',dn x.Wg⟩ (.code q2b::.inBlock 1::ju)) [bot]) w') :qk qgr x.Fz x.cfg.K Stop S (G ((qi0 139).at ⟨tm,dn x.Wg⟩ (.code wX::.inBlock 1::ju)) [bot]) w:=by
 rw[qf2];refine qk.seq kt ?_;refine o.piece hSo ck3 hc h (λT=>o.wp3 h h7 T) (λa' u hr=>⟨hr.1.df,hr.1.sz,hr.1.cap,hr.1.gr⟩) λS1 ρ1 a1 d6 wq1 w1 a7 c8 a9=>?_;refine qk.seq kt ?_;refine o.piece hSo ck4 c8 a9 (λT=>o.wp4 a9 hi a7.1 a7.2 T) (λa' u hr=>⟨hr.1.df,hr.1.sz,hr.1.cap,hr.1.gr⟩) λS2 ρ2 a2 d5 c9 w2 a6 c3 a8=>?_;refine qk.seq kt ?_;refine o.piece hSo ck9 c3 a8 (λT=>o.wp9 a8 hi a6.1 a6.2 T) (λa' u hr=>⟨hr.1.df,hr.1.sz,hr.1.cap,hr.1.gr⟩) λS3 ρ3 a3 b6 b0 w3 b7 b9 b8=>?_;exact hend S3 ρ3 a3 b6 b0 w3 b9 b8 b7.2
end
end Ph4
end Go.Proofs.YtidgnkmjgioapaaGreat
end
section
namespace Go.Proofs.YtidgnkmjgioapaaGreat
open Go Go.RowKit Go.Conc Go.ConcN Go.ConcN.Gen Go.Conc.Lib Go.ConcR.Gen Go.Co Go.Sim
namespace Ph4
section
variable{x:Ph4}
theorem zK(j:Nat)(ls:Nat->Lam):xq (j+1) ls=xq j ls+(if JK (ls j) then 1 else 0):=rfl
theorem q8d{j i:Nat}{ls:Nat->Lam}{l:Lam}(h1:JK (ls i)=false)(h2:JK l=false):xq j (upd ls i l)=xq j ls:=by
 induction j with
 | zero=>rfl
 | succ j ih=>
  rw[zK,zK];rw[ih];by_cases e:j=i
  ·subst e;simp[upd,h1,h2]
  ·simp[upd,e]
theorem q41{j i:Nat}{ls:Nat->Lam}{l:Lam}(h1:JK (ls i)=false):xq j ls<=xq j (upd ls i l):=by
 induction j with
 | zero=>exact qg9 _
 | succ j ih=>
  rw[zK,zK];by_cases e:j=i
  ·subst e;simp[h1];omega
  ·simp[upd,e];omega
theorem qd1{j i:Nat}{ls:Nat->Lam}(hi:i<j)(h1:JK (ls i)=false):xq j (upd ls i .fn)=xq j ls+1:=by
 induction j with
 | zero=>omega
 | succ j ih=>
  rw[zK,zK];by_cases e:j=i
  ·subst e;have:∀n,n<=j->xq n (upd ls j .fn)=xq n ls:=by
    intro n hn;induction n with
    | zero=>rfl
    | succ n ih2=>
     rw[zK,zK];rw[ih2 (by omega)];simp[upd,show n≠j by omega]
   rw[this j (qg9 _),h1,show JK (upd ls j .fn j)=true from by simp[upd,JK]];simp
  ·rw[ih (by omega)];simp[upd,e];omega
theorem qb7{j:Nat}{ls:Nat->Lam}{l:Lam}(h:JK l=false):xq (j+1) (upd ls j l)=xq j ls:=by
 have:∀n,n<=j->xq n (upd ls j l)=xq n ls:=by
  intro n hn;induction n with
  | zero=>rfl
  | succ n ih2=>
   rw[zK,zK];rw[ih2 (by omega)];simp[upd,show n≠j by omega]
 rw[zK,this j (qg9 _)];simp[upd,h]
theorem hJ0:∀W j ls,x.J W j ls->x.J W (j+1) (upd ls j .st):=by
 rintro W j ls ⟨h1,h2,h3,h4⟩;refine⟨by rw[qb7 rfl];exact h1,h2,λhf i hi a6=>?_,λk hk hl=>?_⟩
 ·rcases h3 hf i hi a6 with h | ⟨k,hk,h⟩
  ·exact .inl h
  ·exact .inr ⟨k,by omega,by rw[show upd ls j .st k=ls k from by simp[upd,show k≠j by omega]];exact h⟩
 ·by_cases e:k=j
  ·subst e;simp[upd] at hl
  ·rw[show upd ls j .st k=ls k from by simp[upd,e]] at hl;exact h4 k (by omega) hl
theorem hJ:∀W j ls i γ' l',x.J W j ls->i<j->x.Tr W (ls i) γ' l'->x.J γ' j (upd ls i l'):=by
 rintro W j ls i γ' l' ⟨h1,h2,h3,h4⟩ hi ht;have hu:∀k,k≠i->upd ls i l' k=ls k:=λk hk=>by simp[upd,hk]
 have hs:upd ls i l' i=l':=by simp[upd]
 rcases ht with⟨hl,rfl,rfl⟩ | ⟨i0,hl,rfl,rfl⟩ | ⟨i0,hl,hb,hiN,rfl,rfl⟩
 ·have a7:JK (ls i)=false:=by rcases hl with h | ⟨i0,h,_⟩<;>rw[h]<;>rfl
  refine⟨?_,h2,λhf i' a8 a9=>?_,λk hk a6=>?_⟩
  ·by_cases hlt:W.1<x.N
   ·simp only[hlt,if_true];omega
   ·simp only[hlt,if_false];rw[qd1 hi a7];omega
  ·by_cases e:i'=W.1
   ·subst e;exact .inr ⟨i,hi,.inl (by rw[hs,if_pos a8])⟩
   ·rcases h3 hf i' a8 (by have:i'<W.1+1:=a9;omega) with h | ⟨k,hk,h⟩
    ·exact .inl h
    ·by_cases ek:k=i
     ·subst ek;rcases hl with hl | ⟨i0,hl,hb⟩
      ·rw[hl] at h;rcases h with h | h<;>cases h
      ·rw[hl] at h;rcases h with h | h
       ·cases h
       ·cases h;exact .inl hb
     ·exact .inr ⟨k,hk,by rw[hu k ek];exact h⟩
  ·by_cases ek:k=i
   ·subst ek;rw[hs] at a6;by_cases hlt:W.1<x.N
    ·rw[if_pos hlt] at a6;cases a6
    ·exact .inr (by show x.N<=W.1+1;omega)
   ·rw[hu k ek] at a6;exact(h4 k hk a6).imp id λh=>by show x.N<=W.1+1;omega
 ·have a7:JK (ls i)=false:=by rw[hl];rfl
  refine⟨qgi h1 (by have:=q41 (j:=j) (l:=if γ'.2 then Lam.fn else .wk i0) a7;omega),h2,λhf i' a8 a9=>?_,λk hk a6=>?_⟩
  ·rcases h3 hf i' a8 a9 with h | ⟨k,hk,h⟩
   ·exact .inl h
   ·refine .inr ⟨k,hk,?_⟩;by_cases ek:k=i
    ·subst ek;rw[hl] at h;rcases h with h | h
     ·cases h;rw[hs,hf];exact .inr rfl
     ·cases h
    ·rw[hu k ek];exact h
  ·by_cases ek:k=i
   ·subst ek;rw[hs] at a6;cases hg:γ'.2 with
    | true=>exact .inl rfl
    | false=>rw[hg] at a6;cases a6
   ·rw[hu k ek] at a6;exact h4 k hk a6
 ·have a7:JK (ls i)=false:=by rw[hl];rfl
  exact⟨by rw[q8d a7 rfl];exact h1,λ_=>⟨i0,hiN,hb⟩,λhf=>(by cases hf),λk hk a6=>.inl rfl⟩
theorem hm:∀W l γ' l',x.Tr W l γ' l'->x.m γ'+nu l'<x.m W+nu l:=by
 rintro W l γ' l' ht;unfold m;rcases ht with⟨hl,rfl,rfl⟩ | ⟨i0,rfl,rfl,rfl⟩ | ⟨i0,rfl,hb,hiN,rfl,rfl⟩
 ·have hn:1<=nu l:=by rcases hl with h | ⟨i0,h,_⟩<;>rw[h]<;>simp[nu]
  show 3*(x.N - (W.1+1))+nu (if W.1<x.N then .ld W.1 else .fn)<3*(x.N - W.1)+nu l;by_cases hlt:W.1<x.N
  ·rw[if_pos hlt];show 3*(x.N - (W.1+1))+3<_;omega
  ·rw[if_neg hlt];show 3*(x.N - (W.1+1))+0<_;omega
 ·cases γ'.2<;>simp[nu]
 ·simp[nu]
theorem J.final{W:Nat × Bool}{ls:Nat->Lam}(h:x.J W (min 4 x.N) ls)(hf:∀i,i<min 4 x.N->fin (ls i)):W.2=true↔∃i,i<x.N/\x.bad i=true:=by
 obtain⟨h1,h2,h3,h4⟩:=h;refine⟨h2,λ⟨i,hi,hb⟩=>?_⟩;have hfn:∀k,k<min 4 x.N->ls k=.fn:=λk hk=>by
  have:=hf k hk;cases hl:ls k<;>rw[hl] at this<;>first | rfl | exact this.elim
 rcases h4 0 (by omega) (hfn 0 (by omega)) with h | h
 ·exact h
 ·cases hg:W.2 with
  | true=>rfl
  | false=>
   rcases h3 hg i hi (by omega) with h5 | ⟨k,hk,h5⟩
   ·rw[hb] at h5;cases h5
   ·rw[hfn k hk] at h5;rcases h5 with h5 | h5<;>cases h5
theorem hSo{l:Lam}:∀S g w off,x.cfg.Stop l S g w->x.cfg.Stop l S { g with offers:=off } w:=by
 rintro S g w off ⟨h1,h2⟩;refine⟨h1,?_⟩;rcases h2 with⟨hf,g',e,r⟩ | ⟨hf,hx⟩
 ·exact .inl ⟨hf,g',e,r⟩
 ·exact .inr ⟨hf,λW hd hj=>hx W hd hj⟩
variable(o:x.Ok){S:Bs}{w:qg7}{Z:Ren}{a:Act}{tm:Array qgb}{wq:qg7}
include o in
theorem Ok.toA{l:Lam}(hl:l=.st\/∃i,l=.wk i/\x.bad i=false)(hc:x.Cm w)(hk:x.Wk S Z a tm wq w) :qk qgr x.Fz x.cfg.K (x.cfg.Stop l) S (G ((qi0 139).at ⟨tm,dn x.Wg⟩ (.code wLB::ju)) [bot]) w :=
 qcc kt (o.t1 hk) λ_ h₁=>o.sync1 hl (hc.rely h₁) (hk.rely hc h₁)
theorem toE(hc:x.Cm w)(tm:Array qgb)(todo:List qkl):qk qgr x.Fz x.cfg.K (x.cfg.Stop .fn) S (G { (qi0 139).at ⟨tm,dn x.Wg⟩ todo with mode:=.returning } [bot]) w :=
 qc9 kt hc.liv.1 (λ_ _ k=>k.1) (λ_ _ h=>⟨h.1,.inl ⟨trivial,h.2⟩⟩) tm todo
include o in
theorem Ok.hW:∀l S g w,x.WA l S g w->qk qgr x.Fz x.cfg.K (x.cfg.Stop l) S g w:=by
 letI:JunkSet:=x.js
 rintro l S g w ⟨hc,h⟩;have a9:x.A<w.heap.size:=qgp (o.ndlt o.nA) hc.size;cases l with
 | st=>
  rcases h with⟨rfl,hS⟩ | ⟨Z,a,tm,wq,hk,rfl⟩
  ·exact q4G kt (o.toA (.inl rfl) hc (o.born hc hS))
  ·exact qca kt (o.toA (.inl rfl) hc (hk.set 59 (by omega) (kr _)))
 | ld i=>
  obtain⟨hi,Z,a,tm,wq,hk,rfl⟩:=h;refine qcb (av:=qgd) kt hk.tsz (o.t2 hk) (o.t3 hk) (λw₁ h₁=>o.cellA (hc.rely h₁)) (o.fz o.nA) a9 hi (by have:=o.hN;omega) (λw₁ h₁=>?_);have b0:=hk.rely hc h₁;have a6:=(((((((b0.set 12 (by omega) (.int .i64 (i+1))).set 13 (by omega) (.int .i64 i)).set 7 (by omega) (.int .i64 i)).set 14 (by omega) (.int .i64 i)).set 15 (by omega) (o.vrA.mono hk.le)).set 16 (by omega) (.int .i64 x.N)).set 17 (by omega) (.bool false)).set 18 (by omega) (.bool false);exact o.sync2 hi (hc.rely h₁) a6 (by simp[qh5,hk.sz]) (by simp[qh5,hk.sz])
 | wk i=>
  obtain⟨hi,Z,a,tm,wq,hk,h7,a8,rfl⟩:=h;refine q9A kt hk.tsz (hk.bool a8) ?_;have a6:=(hk.set 19 (by omega) (.bool false)).set 20 (by omega) (.bool false);refine o.walk hSo hi hc a6 (by simp[qh5,h7]) λS' ρ' a' tm' wq' w' a7 hk' h58=>?_;cases hb:x.bad i with
  | false=>
   rw[hb] at h58;exact qc8 kt hk'.tsz (hk'.bool h58) (o.toA (.inr ⟨i,rfl,hb⟩) a7 hk')
  | true=>
   rw[hb] at h58;exact qc7 kt (λw n=>⟨id,id⟩) hk'.tsz (o.t3 hk') (hk'.bool h58) λw₁ h₁=>o.sync3 hi hb (a7.rely h₁) (hk'.rely a7 h₁)
 | fn=>
  obtain⟨Z,a,tm,wq,hk,⟨i,h1,h2,rfl⟩ | ⟨a8,rfl⟩⟩:=h
  ·exact q9B kt hk.tsz (o.t2 hk) (λw₁ h₁=>o.cellA (hc.rely h₁)) (o.fz o.nA) a9 h1 h2 (toE hc)
  ·exact q9z kt hk.tsz (hk.bool a8) (toE hc)
include o in
theorem Ok.cfg(hAr:∀g w,x.AnchW g w->g.status=.running)(hAn:∀g w,x.AnchW g w->∃m,x.cfg.GM x.cfg.AtW1 m g w)(hFin:∀W ls g w,x.Fin g w->x.J W (min 4 x.N) ls->(∀i,i<min 4 x.N->fin (ls i))->x.DataAt W w->x.cfg.Ph w->E qgr x.Post (flat x.clA) g w):x.cfg.Ok where
 hn:=by show min 4 x.N<2147483648;omega
 hlo:=o.hlo
 dat:=λW w w' h hd=>⟨(h _ (.inl rfl)).trans hd.1,(h _ (.inr rfl)).trans hd.2⟩
 fzc:=λb hb=>⟨hb.2,hb.1⟩
 syc:=λb hb=>by
  have:b∈x.jks:=by rcases hb with rfl | rfl<;>simp[jks]
  exact⟨o.sync b this,o.jlt b this⟩
 cla0:=o.cla0
 wgc:=⟨o.sync _ (by simp[Ph4.cfg,jks]),o.jlt _ (by simp[Ph4.cfg,jks]),λh=>h.elim o.ne2 o.ne3⟩
 hW:=o.hW
 hJ0:=hJ0
 hJ:=hJ
 hm:=hm
 hAr:=hAr
 hAn:=hAn
 hFin:=hFin
end
end Ph4
end Go.Proofs.YtidgnkmjgioapaaGreat
end
namespace Go.Proofs.YtidgnkmjgioapaaGreat
section
open Go Go.RowKit Go.Conc Go.ConcN Go.ConcN.Gen Go.Conc.Lib Go.ConcR.Gen Go.Co Go.Sim
theorem Qc{cl:Nat->Cl}{A o size:Nat}{wr:Bool}(h:cl A=.mine 0)(hs:A<size):EvG cl size 0 ⟨.cell ⟨A,o,none⟩,wr,Mode.plain == Mode.atomic⟩/\jw ⟨.cell ⟨A,o,none⟩,wr,Mode.plain == Mode.atomic⟩:=by
 refine⟨λx hx b hb=>?_,by simp[jw],by simp,by simp⟩;have hx':x=⟨.cell ⟨A,o,none⟩,wr,.plain⟩:=by
  have e:(Mode.plain == Mode.atomic)=false:=by decide
  rw[e] at hx;cases wr<;>(simp[qi3,qiy] at hx;exact hx.symm)
 subst hx';simp only[Go.Co.blk,qhc] at hb;subst hb;exact⟨hs,.inl ⟨h,rfl⟩⟩
theorem Qx{w:qg7}{b o d:Nat}{cs:Array qgb}{e:qgt}{f:Nat × Nat}{v:qgb}(h:w.heap[b]?=some (.cells cs e f))(hv:cs[o]?=some v):(w.at d).cell? ⟨b,o,none⟩=some v:=q8 (w:=w.at d) h hv
structure Nw(w w1:qg7)(B:Nat)(c:Array qgb)(e:qgt):Prop where
 eq:w1=w.alloc (.cells c e)
 at_:B=w.heap.size
section
variable{w w1:qg7}{B:Nat}{c:Array qgb}{e:qgt}
theorem nw(w:qg7)(c:Array qgb)(e:qgt):∃B w1,Nw w w1 B c e:=⟨_,_,⟨rfl,rfl⟩⟩
theorem Nw.size(h:Nw w w1 B c e):w1.heap.size=w.heap.size+1:=by rw[h.eq];simp
theorem Nw.le(h:Nw w w1 B c e):w.heap.size<=w1.heap.size:=by rw[h.size];omega
theorem Nw.lt(h:Nw w w1 B c e):B<w1.heap.size:=by rw[h.size,h.at_];omega
theorem Nw.new(h:Nw w w1 B c e):w1.heap[B]?=some (.cells c e (0,0)):=by
 rw[h.eq,h.at_];unfold World.alloc;exact Array.getElem?_push_size
theorem Nw.old(h:Nw w w1 B c e){b:Nat}(hb:b<w.heap.size):w1.heap[b]?=w.heap[b]?:=by
 rw[h.eq];simp only[World.alloc,qkt];rw[if_neg (by omega)]
theorem Nw.os(h:Nw w w1 B c e):w1.os=w.os:=by rw[h.eq];rfl
theorem Nw.output(h:Nw w w1 B c e):w1.output=w.output:=by rw[h.eq];rfl
end
theorem min4(N:Nat):(if(N:Int)<4 then(N:Int) else 4)=((min 4 N:Nat):Int):=by split<;>omega
theorem qep(N:Nat)(w:qg7)(P:qgl):(qni #[3,3] 3 #[.int .i64 4,.int .i64 N]).events P w #[]=#[]:=by
 simp[go_sem,qni,Builtin.min2]
theorem K5{P:qgl}{w:qg7}{es:Array qhF}{ad:qho}{b:Option qho}{l c:Nat}:(Go.store ad (.slice b l c)).events P w es=storedEv P w es ad (.slice b l c) .plain:=events_store P w es ad _ .plain rfl
structure At5(Q:qgl)[JunkSet](I:Nat)(w:qg7)(cl:Nat->Cl)(Z:Ren)(yb pb vb ab:Option qho)(n yc pn pc vn vc N ac:Nat)(lim:Int)(Y B V A Nx Fd Wg:Nat)(O:Ren)(wq:qg7)(w5:qg7)(cl5:Nat->Cl):Prop where
 wr:WR Q I O wq w5
 ln:I<=O.length
 le:Le Z O
 fr:∀i j,BR O i j->BR Z i j\/w.heap.size<=j
 own:kL cl5 O
 kp:yU I 0 w O w5
 c0:∀b,w5.heap.size<=b->cl5 b=.mine 0
 cold:∀b,b<w.heap.size->cl5 b=cl b
 hY:w5.heap[Y]?=some (.cells #[.slice yb n yc,.int .i64 lim] 91 (0,0))
 hB:w5.heap[B]?=some (.cells #[.slice pb pn pc] 29 (0,0))
 hV:w5.heap[V]?=some (.cells #[.slice vb vn vc] 29 (0,0))
 hA:w5.heap[A]?=some (.cells #[.slice ab N ac] 152 (0,0))
 hNx:w5.heap[Nx]?=some (.cells #[.int .i64 0] 158 (0,0))
 hFd:w5.heap[Fd]?=some (.cells #[.int .u32 0] 161 (0,0))
 hWg:w5.heap[Wg]?=some (.cells #[.int .u64 0,.int .u32 0] 166 (0,0))
 cY:cl5 Y=.mine 0
 cB:cl5 B=.mine 0
 cV:cl5 V=.mine 0
 cA:cl5 A=.mine 0
 cNx:cl5 Nx=.sync
 cFd:cl5 Fd=.sync
 cWg:cl5 Wg=.sync
 l1:w.heap.size<=Nx
 l2:Nx<Fd
 l3:Fd<Wg
noncomputable def x85:qiw:=sqB (sqB (sqB (sqB (sqB (Tryz.f85.body.getD .skip)))))
noncomputable def Q6:qiw:=sqB (sqA x85)
noncomputable def xD:qiw:=sqB x85
def qdD(yb pb vb ab:Option qho)(n yc pn pc vn vc N ac:Nat)(lim:Int)(Y B V A Nx Fd Wg:Nat)(j:Int)(a9 a8 a7 a6:qgb):Array qgb :=
 #[.agg #[.slice yb n yc,.int .i64 lim],.slice pb pn pc,.slice vb vn vc,.pointer (some ⟨Y,0,none⟩),.pointer (some ⟨B,0,none⟩),.pointer (some ⟨V,0,none⟩),.bool false,.pointer (some ⟨A,0,none⟩),.pointer (some ⟨Nx,0,none⟩),.pointer (some ⟨Fd,0,none⟩),.pointer (some ⟨Wg,0,none⟩),.agg #[.slice yb n yc,.int .i64 lim],.slice vb vn vc,.slice ab N ac,.slice ab N ac,.int .i64 N,.int .i64 (min 4 N:Nat),.int .i64 j,a9,a8,a7,a6,qgd,qgd]
theorem qf1[JunkSet]{I:Nat}(D:Two Tp.prog qgr)(hok:JunkSet.okf 137){Rc:qgb->qg7->Prop}{yq vq:qgb}{wq:qg7}{Z:Ren}{Post:qgb->qg7->Prop}{cl:Nat->Cl}{cs:List qgm}{w:qg7}{yb pb vb:Option qho}{n yc pn pc vn vc:Nat}{lim:Int}(hc0:∀b,w.heap.size<=b->cl b=.mine 0)(g9:I<=Z.length)(hw:WR Tp.prog I Z wq w)(hG:Gl qgr Z)(hown:kL cl Z)(hy:VR Z yq (.agg #[.slice yb n yc,.int .i64 lim]))(hv:VR Z vq (.slice vb vn vc))(h8:∀i,¬ JunkSet.jk i)(h9:∀T,qhf Tp.prog 137 #[yq,vq] (wq.tp T) λe u=>∃v,e=.returned v/\Rc v u)(m3:∀v u,Rc v u->∃b N c,v=.slice b N c)(hend:∀O wq1 v Y B V A Nx Fd Wg ab N ac w5 cl5,Rc v wq1->VR O v (.slice ab N ac)->At5 Tp.prog I w cl Z yb pb vb ab n yc pn pc vn vc N ac lim Y B V A Nx Fd Wg O wq1 w5 cl5 ->EE qgr Post cl5 (G ((qgA 85).at ⟨qdD yb pb vb ab n yc pn pc vn vc N ac lim Y B V A Nx Fd Wg 0 qgd undef undef undef,[]⟩ [.code Q6,.code xD]) cs) w5) :EE qgr Post cl (G ((qgA 85).at ⟨#[.agg #[.slice yb n yc,.int .i64 lim],.slice pb pn pc,.slice vb vn vc]++qhk 21 qgd,[]⟩ [.code (Tryz.f85.body.getD .skip)]) cs) w:=by
 simp only[Q6,xD,x85,qdD] at hend;simp only[qkj,qgh,sqA,sqB,inn] at hend ⊢;refine EE.seq ?_;refine EE.region ?_;simp only[qgF,qgq,qgx,qgG,qgz,qgB,qhg];obtain⟨Y,w1,n1⟩:=nw w #[.slice yb n yc,.int .i64 lim] 91;refine EE.op (.pointer (some ⟨Y,0,none⟩)) w1 cl rfl rfl (by k_ne) (λd=>by rw[n1.eq,n1.at_];go_simp;exact⟨rfl,rfl⟩) (λd=>by simp[go_sem]) n1.le (λ_ _=>rfl) (λb hb=>hc0 b (by have:=n1.size;omega)) ?_;walk_nrm;obtain⟨B,w2,n2⟩:=nw w1 #[.slice pb pn pc] 29;refine EE.op (.pointer (some ⟨B,0,none⟩)) w2 cl rfl rfl (by k_ne) (λd=>by rw[n2.eq,n2.at_];go_simp;exact⟨rfl,rfl⟩) (λd=>by simp[go_sem]) n2.le (λ_ _=>rfl) (λb hb=>hc0 b (by have:=n1.size;have:=n2.size;omega)) ?_;walk_nrm;obtain⟨V,w3,n3⟩:=nw w2 #[.slice vb vn vc] 29;have d6:∀b,w3.heap.size<=b->cl b=.mine 0:=λb hb=>hc0 b (by have:=n1.size;have:=n2.size;have:=n3.size;omega);refine EE.op (.pointer (some ⟨V,0,none⟩)) w3 cl rfl rfl (by k_ne) (λd=>by rw[n3.eq,n3.at_];go_simp;exact⟨rfl,rfl⟩) (λd=>by simp[go_sem]) n3.le (λ_ _=>rfl) d6 ?_;walk_nrm;refine EE.value (.bool false) rfl rfl (by k_ne) (λ_=>by go_simp) (λ_=>by simp[go_sem]) ?_;walk_nrm;refine EE.region_end ?_;refine EE.seq ?_;refine EE.region ?_;simp only[qgF,qgq,qgx,qgG,qgz,qgB,qhg];have hY:w3.heap[Y]?=some (.cells #[.slice yb n yc,.int .i64 lim] 91 (0,0)):=by
  rw[n3.old (qgp n1.lt n2.le),n2.old n1.lt];exact n1.new
 have hB:w3.heap[B]?=some (.cells #[.slice pb pn pc] 29 (0,0)):=by
  rw[n3.old n2.lt];exact n2.new
 have hV:=n3.new;have cY:cl Y=.mine 0:=hc0 _ (by rw[n1.at_];omega);have cB:cl B=.mine 0:=hc0 _ (by rw[n2.at_];exact n1.le);have cV:cl V=.mine 0:=hc0 _ (by rw[n3.at_];exact qgi n1.le n2.le);have sY:Y<w3.heap.size:=qgp n1.lt (qgi n2.le n3.le);have sB:B<w3.heap.size:=qgp n2.lt n3.le;have sV:V<w3.heap.size:=n3.lt;have m7:∀d,(w3.at d).cell? ⟨Y,0,none⟩=some (.slice yb n yc):=λd=>Qx hY rfl;have m6:∀d,(w3.at d).cell? ⟨Y,1,none⟩=some (.int .i64 lim):=λd=>Qx hY rfl;have m9:∀d,(w3.at d).cell? ⟨V,0,none⟩=some (.slice vb vn vc):=λd=>Qx hV rfl;refine EE.op (.agg #[.slice yb n yc,.int .i64 lim]) w3 cl rfl rfl (by k_ne) (λd=>by go_simp) (λd e he=>by
  simp[go_sem,m7,m6] at he;rcases he with rfl | rfl
  ·exact Qc cY sY
  ·exact Qc cY sY) (qg9 _) (λ_ _=>rfl) d6 ?_
 walk_nrm;refine EE.op (.slice vb vn vc) w3 cl rfl rfl (by k_ne) (λd=>by go_simp) (λd e he=>by
  simp[go_sem,m9] at he;rw[he];exact Qc cV sV) (qg9 _) (λ_ _=>rfl) d6 ?_
 walk_nrm;refine EE.enter rfl rfl (by k_ne) rfl Tryz.func137 (by kernel_rfl) rfl ?_;walk_nrm;have l9:WR Tp.prog I Z wq w3:=hw.rely (qgi n1.le (qgi n2.le n3.le)) (by rw[n3.os,n2.os,n1.os]) (λi j hij _=>by
  have hj:=hw.lt i j hij;rw[n3.old (qgp hj (qgi n1.le n2.le)),n2.old (qgp hj n1.le),n1.old hj]) (λi j _ h=>absurd h (h8 i))
 have nY:∀i,¬ BR Z i Y:=λi h=>by have:=hw.lt _ _ h;rw[n1.at_] at this;omega
 have nB:∀i,¬ BR Z i B:=λi h=>by have:=hw.lt _ _ h;have:=n1.le;rw[n2.at_] at *;omega
 have nV:∀i,¬ BR Z i V:=λi h=>by have:=hw.lt _ _ h;have:=n1.le;have:=n2.le;rw[n3.at_] at *;omega
 refine EE.call D (R:=Rc) hok (z6 137 (by decide)) (aq:=#[yq,vq]) (Z:=Z) (wq:=wq) ?_ g9 l9 hG h9 rfl rfl hown d6 ?_
 ·refine⟨rfl,λi x y hx hy'=>?_⟩;have hi:i<2:=by
   have:=(qg8.1 hx).1;simpa using this
  obtain rfl | rfl:i=0\/i=1:=by omega
  ·cases hx;cases hy';exact hy
  ·cases hx;cases hy';exact hv
 intro O wq1 v v' w4 k5 g8 d8 hle d5 d9 k0 b0;obtain⟨l5,N,ac,rfl⟩:=m3 _ _ k5;obtain⟨ab,rfl⟩:∃ab,v'=.slice ab N ac:=by cases g8<;>exact⟨_,rfl⟩
 have fY:∀i,¬ BR O i Y:=λi h=>(d5 i Y h).elim (nY i) (by omega);have fB:∀i,¬ BR O i B:=λi h=>(d5 i B h).elim (nB i) (by omega);have fV:∀i,¬ BR O i V:=λi h=>(d5 i V h).elim (nV i) (by omega);have m5:=(b0.old Y sY λi h=>absurd h (fY i)).trans hY;have n4:=(b0.old B sB λi h=>absurd h (fB i)).trans hB;have m8:=(b0.old V sV λi h=>absurd h (fV i)).trans hV;rw[qiA];walk_nrm;obtain⟨A,w5,n5⟩:=nw w4 #[.slice none 0 0] 152;have g5:∀b,w5.heap.size<=b->cl b=.mine 0:=λb hb=>k0 b (qgi n5.le hb);refine EE.op (.pointer (some ⟨A,0,none⟩)) w5 cl rfl rfl (by k_ne) (λd=>by rw[n5.eq,n5.at_];go_simp;exact⟨rfl,rfl⟩) (λd=>by simp[go_sem]) n5.le (λ_ _=>rfl) g5 ?_;walk_nrm;have cA:cl A=.mine 0:=k0 _ (by rw[n5.at_];omega);have d7:=n5.new;have k9:∀d,(w5.at d).cell? ⟨A,0,none⟩=some (.slice none 0 0):=λd=>Qx d7 rfl;have k6:∀d,(w5.at d).frozen? ⟨A,0,none⟩=false:=λd=>Qa (w:=w5.at d) d7;obtain⟨w6,c3⟩:∃w6,w6=w5.setCell ⟨A,0,none⟩ (.slice ab N ac):=⟨_,rfl⟩;have s6:w6.heap.size=w5.heap.size:=by rw[c3];simp
 refine EE.store w6 rfl rfl (by k_ne) (λd=>by rw[c3];clear c3;go_simp;rfl) (λd e he=>by
  simp[go_sem] at he;rw[K5] at he;simp[storedEv,k9,k6] at he;rw[he];exact Qc cA (by rw[s6];exact n5.lt)) s6 g5 ?_
 walk_nrm;have n6:w6.heap[A]?=some (.cells #[.slice ab N ac] 152 (0,0)):=by
  rw[c3,qnz _ _ _ _ _ _ d7];simp
 have g7:∀b,b<w4.heap.size->w6.heap[b]?=w4.heap[b]?:=λb hb=>by
  rw[c3,qka _ _ _ _ (by rw[n5.at_];show b≠w4.heap.size;omega)];exact n5.old hb
 have g6:w6.os=w4.os:=by rw[c3];exact n5.os
 have l7:w6.output=w4.output:=by rw[c3];exact n5.output
 have m4:∀b,w6.heap.size<=b->cl b=.mine 0:=λb hb=>g5 b (by omega);have s4:w4.heap.size<=w6.heap.size:=by rw[s6];exact n5.le
 have l6:A<w6.heap.size:=by rw[s6];exact n5.lt
 clear c3 k9 k6 d7 s6;refine EE.region_end ?_;refine EE.seq ?_;refine EE.region ?_;simp only[qgF,qgq,qgx,qgG,qgz,qgB,qhg];obtain⟨Nx,w7,n7⟩:=nw w6 #[.int .i64 0] 158;obtain⟨c7,e6⟩:∃c7:Nat->Cl,c7=λb=>if b=Nx then .sync else cl b:=⟨_,rfl⟩;have a7:∀b,b<w6.heap.size->c7 b=cl b:=λb hb=>by rw[e6];simp only;rw[if_neg (by rw[n7.at_];omega)]
 have b7:∀b,w7.heap.size<=b->c7 b=.mine 0:=λb hb=>by rw[e6];simp only;rw[if_neg (by have:=n7.lt;omega)];exact m4 b (qgi n7.le hb)
 refine EE.op (.pointer (some ⟨Nx,0,none⟩)) w7 c7 rfl rfl (by k_ne) (λd=>by rw[n7.eq,n7.at_];go_simp;exact⟨rfl,rfl⟩) (λd=>by simp[go_sem]) n7.le a7 b7 ?_;walk_nrm;refine EE.region_end ?_;refine EE.seq ?_;refine EE.region ?_;simp only[qgF,qgq,qgx,qgG,qgz,qgB,qhg];obtain⟨Fd,w8,n8⟩:=nw w7 #[.int .u32 0] 161;obtain⟨c8,e5⟩:∃c8:Nat->Cl,c8=λb=>if b=Fd then .sync else c7 b:=⟨_,rfl⟩;have a8:∀b,b<w7.heap.size->c8 b=c7 b:=λb hb=>by rw[e5];simp only;rw[if_neg (by rw[n8.at_];omega)]
 have b8:∀b,w8.heap.size<=b->c8 b=.mine 0:=λb hb=>by rw[e5];simp only;rw[if_neg (by have:=n8.lt;omega)];exact b7 b (qgi n8.le hb)
 refine EE.op (.pointer (some ⟨Fd,0,none⟩)) w8 c8 rfl rfl (by k_ne) (λd=>by rw[n8.eq,n8.at_];go_simp;exact⟨rfl,rfl⟩) (λd=>by simp[go_sem]) n8.le a8 b8 ?_;walk_nrm;refine EE.region_end ?_;refine EE.seq ?_;refine EE.region ?_;simp only[qgF,qgq,qgx,qgG,qgz,qgB,qhg];obtain⟨Wg,w9,n9⟩:=nw w8 #[.int .u64 0,.int .u32 0] 166;obtain⟨c9,e4⟩:∃c9:Nat->Cl,c9=λb=>if b=Wg then .sync else c8 b:=⟨_,rfl⟩;have a9:∀b,b<w8.heap.size->c9 b=c8 b:=λb hb=>by rw[e4];simp only;rw[if_neg (by rw[n9.at_];omega)]
 have b9:∀b,w9.heap.size<=b->c9 b=.mine 0:=λb hb=>by rw[e4];simp only;rw[if_neg (by have:=n9.lt;omega)];exact b8 b (qgi n9.le hb)
 refine EE.op (.pointer (some ⟨Wg,0,none⟩)) w9 c9 rfl rfl (by k_ne) (λd=>by rw[n9.eq,n9.at_];go_simp;exact⟨rfl,rfl⟩) (λd=>by simp[go_sem]) n9.le a9 b9 ?_;walk_nrm;have e7:=n7.le;have e8:=n8.le;have e9:=n9.le;have b6:∀b,b<w4.heap.size->w9.heap[b]?=w4.heap[b]?:=λb hb=>by
  rw[n9.old (by omega),n8.old (by omega),n7.old (by omega)];exact g7 b hb
 have a6:∀b,b<w6.heap.size->c9 b=cl b:=λb hb=>by rw[a9 b (by omega),a8 b (by omega),a7 b hb]
 have k8:w9.heap[A]?=some (.cells #[.slice ab N ac] 152 (0,0)):=by
  rw[n9.old (by omega),n8.old (by omega),n7.old (by omega)];exact n6
 refine EE.region_end ?_;refine EE.seq ?_;refine EE.seq ?_;refine EE.region ?_;simp only[qgF,qgq,qgx,qgG,qgz,qgB,qhg];have k7:∀d,(w9.at d).cell? ⟨A,0,none⟩=some (.slice ab N ac):=λd=>Qx k8 rfl;have l4:c9 A=.mine 0:=(a6 A l6).trans cA;have l8:A<w9.heap.size:=by omega
 refine EE.op (.slice ab N ac) w9 c9 rfl rfl (by k_ne) (λd=>by go_simp) (λd e he=>by
  simp[go_sem,k7] at he;rw[he];exact Qc l4 l8) (qg9 _) (λ_ _=>rfl) b9 ?_
 walk_nrm;refine EE.value (.int .i64 N) rfl rfl (by k_ne) (λ_=>by go_simp) (λ_=>by simp[go_sem]) ?_;walk_nrm;refine EE.value (.int .i64 (min 4 N:Nat)) rfl rfl (by k_ne) (λ_=>by go_simp;rw[min4]) (λ_=>by simp[go_sem];exact qep _ _ _) ?_;walk_nrm;refine EE.value (.int .i64 0) rfl rfl (by k_ne) (λ_=>by go_simp) (λ_=>by simp[go_sem]) ?_;walk_nrm;refine EE.region_end ?_;have f4:∀{b:Nat},b<w3.heap.size->b<w4.heap.size:=λh=>qgp h b0.size;refine hend O wq1 (.slice l5 N ac) Y B V A Nx Fd Wg ab N ac w9 c9 k5 g8 ⟨?_,qgi g9 hle.len,hle,λi j hij=>(d5 i j hij).imp id λh=>qgi (qgi n1.le (qgi n2.le n3.le)) h,?_,⟨?_,?_,?_,?_,λ_ _ _ _=>qh1 _,qh1 _⟩,b9,?_,?_,?_,?_,k8,?_,?_,n9.new,?_,?_,?_,l4,?_,?_,?_,?_,?_,?_⟩
 ·-- wr
  refine d8.rely (by omega) ?_ (λi j hij _=>b6 j (d8.lt i j hij)) (λi j _ h=>absurd h (h8 i));rw[n9.os,n8.os,n7.os,g6]
 ·-- own
  intro i j hij;have hj:=d8.lt i j hij;rw[a6 j (by omega)];exact d9 i j hij
 ·-- keep
  intro j hj hn;have h1:w.heap.size<=w3.heap.size:=qgi n1.le (qgi n2.le n3.le);have h2:=b0.size;rw[b6 j (by omega),b0.old j (by omega) hn,n3.old (qgp hj (qgi n1.le n2.le)),n2.old (qgp hj n1.le),n1.old hj]
 ·rw[n9.os,n8.os,n7.os,g6,b0.os,n3.os,n2.os,n1.os]
 ·rw[n9.output,n8.output,n7.output,l7,b0.output,n3.output,n2.output,n1.output]
 ·have h1:w.heap.size<=w3.heap.size:=qgi n1.le (qgi n2.le n3.le);have h2:=b0.size;omega
 ·intro b hb;have h1:w.heap.size<=w3.heap.size:=qgi n1.le (qgi n2.le n3.le);have h2:=b0.size;exact a6 b (by omega)
 ·exact(b6 Y (f4 sY)).trans m5
 ·exact(b6 B (f4 sB)).trans n4
 ·exact(b6 V (f4 sV)).trans m8
 ·have:=n7.lt;rw[n9.old (by omega),n8.old (by omega)];exact n7.new
 ·have:=n8.lt;rw[n9.old (by omega)];exact n8.new
 ·have:=f4 sY;rw[a6 Y (by omega)];exact cY
 ·have:=f4 sB;rw[a6 B (by omega)];exact cB
 ·have:=f4 sV;rw[a6 V (by omega)];exact cV
 ·have:=n7.lt;rw[a9 Nx (by omega),a8 Nx (by omega),e6];simp
 ·have:=n8.lt;rw[a9 Fd (by omega),e5];simp
 ·rw[e4];simp
 ·have h1:w.heap.size<=w3.heap.size:=qgi n1.le (qgi n2.le n3.le);have h2:=b0.size;rw[n7.at_];omega
 ·have:=n7.lt;rw[n8.at_];omega
 ·have:=n8.lt;rw[n9.at_];omega
end
section
open Go Go.RowKit Go.Conc Go.ConcN Go.ConcN.Gen Go.Conc.Lib Go.ConcR.Gen Go.Co Go.Sim
theorem qe7{U X:Type}{C:Cfg U X}{Stop:qgc->qg7->Prop}{a m:Nat}{g:qgc}{w:qg7}(h:qlA C.P true (LR C.ty C.Wg) qmy (λg w=>C.GM Stop m g w) a g w):C.GM Stop (a+m) g w :=
 Cfg.GM.trans (Cfg.GM.of h λ_ _ h=>h)
noncomputable def yB:qiw:=inn (inn Q6)
noncomputable def YQ:List qkl:=[.inLoop yB,.inBlock 0,.code xD]
def KE(x:Ph4):qgb:=.func (.func 139) #[] (jr x.Wg x.Nx x.A x.Fd x.Y x.V x.B)
def tmx(x:Ph4)(j:Nat)(a b c d e:qgb):Array qgb :=
 #[.agg #[.slice x.yb x.ps.length x.yc,.int .i64 x.lim],x.pv,x.vv,.pointer (some ⟨x.Y,0,none⟩),.pointer (some ⟨x.B,0,none⟩),.pointer (some ⟨x.V,0,none⟩),.bool false,.pointer (some ⟨x.A,0,none⟩),.pointer (some ⟨x.Nx,0,none⟩),.pointer (some ⟨x.Fd,0,none⟩),.pointer (some ⟨x.Wg,0,none⟩),.agg #[.slice x.yb x.ps.length x.yc,.int .i64 x.lim],x.vv,.slice x.ab x.N x.ac,.slice x.ab x.N x.ac,.int .i64 x.N,.int .i64 (min 4 x.N:Nat),.int .i64 j,a,b,c,d,e,qgd]
def z18(j:Nat):qgb:=if j=0 then qgd else .bool true
def z19(j:Nat):qgb:=if j=0 then qgd else .tuple #[]
def z20(x:Ph4)(j:Nat):qgb:=if j=0 then qgd else KE x
def z21(j:Nat):qgb:=if j=0 then qgd else .int .i64 j
theorem qeG(j:Nat):z18 (j+1)=.bool true:=by simp[z18]
theorem qeF(j:Nat):z19 (j+1)=.tuple #[]:=by simp[z19]
theorem qeE(x:Ph4)(j:Nat):z20 x (j+1)=KE x:=by simp[z20]
theorem qeD(j:Nat):z21 (j+1)=.int .i64 (j+1:Nat):=by simp[z21]
noncomputable def q3m(x:Ph4)(cs:List qgm)(j:Nat):qgc:=G ((qgA 85).at ⟨tmx x j (z18 j) (z19 j) (z20 x j) (z21 j) qgd,[]⟩ (.code yB::YQ)) cs
section
variable{x:Ph4}{cs:List qgm}
theorem KX{Stop:qgc->qg7->Prop}{m:Nat}{j:Nat}(hj:j<4)(h:∀w,qjg 166 x.Wg w->x.cfg.GM Stop m (q3m x cs (j+1)) w)(w:qg7)(hF:qjg 166 x.Wg w) :x.cfg.GM Stop (7+m) (G ((qgA 85).at ⟨tmx x j (.bool true) (.tuple #[]) (KE x) (z21 j) qgd,[]⟩ (.inRegion (qJ (sqB (inn (sqA (sqB (sqB yB)))))) []::.inBlock 1::.code (sqB (sqB (sqB yB)))::YQ)) cs) w:=by
 refine qe7 ?_;simp only[q3m,YQ,yB,Q6,xD,x85,qkj,qgh,sqA,sqB,inn,qJ,tmx] at h ⊢;have a6:IntKind.i64.wrap ((j:Int)+1)=j+1:=qgH _ (by omega);u_c qgf qa hF;u_c stepG_inBlock qa hF;u_reg qa hF;u_op qa hF;u_op qa hF;u_c qgf qa hF;u_c stepG_inLoop qa hF;refine qip (λw₁ h₁=>?_);have e:=h w₁ (qa hF h₁);simp only[qeG,qeF,qeE,qeD,Int.natCast_add,Int.cast_ofNat_Int] at e;exact e
noncomputable def qct(x:Ph4)(cs:List qgm)(j:Nat):qgc:=G ((qgA 85).at ⟨tmx x j (.bool true) (.tuple #[]) (z20 x j) (z21 j) qgd,[]⟩ (.inRegion (qJ (sqA (inn (sqA (sqB (sqB yB)))))) []::.code (sqB (inn (sqA (sqB (sqB yB)))))::.inBlock 1::.code (sqB (sqB (sqB yB)))::YQ)) cs
theorem q9d{S:qgc->qg7->Prop}{N j:Nat}(hj:j<min 4 x.N)(h:∀w,qjg 166 x.Wg w->x.cfg.GM (x.cfg.AtGoS S) N (qct x cs j) w)(w:qg7)(hF:qjg 166 x.Wg w):x.cfg.GM (x.cfg.AtKdS S) 24 (q3m x cs j) w:=by
 refine Cfg.add_spawn (N:=N) ?_;have hlt:decide ((j:Int)<((min 4 x.N:Nat):Int))=true:=decide_eq_true (by omega);simp only[qct,q3m,YQ,yB,Q6,xD,x85,qkj,qgh,sqA,sqB,inn,qJ,tmx] at h ⊢;u_c qgs qa hF;u_reg qa hF;u_op qa hF;u_c qgf qa hF;u_c qgs qa hF;u_cond true qa hF;u_c qhD qa hF;u_c qgs qa hF;u_c qmp qa hF;u_c qgs qa hF;u_reg qa hF;u_in qa hF;refine goes_call rfl rfl (by k_ne) rfl Y4.f_add (nm_add link) rfl ⟨by u_nil,?_⟩
 walk_nrmf addFn
 exact addPos (L:=link) Y4 h _ hF
noncomputable def qej(x:Ph4)(cs:List qgm)(j:Nat):qgc:=G ((qgA 85).at ⟨tmx x j (.bool true) (.tuple #[]) (KE x) (z21 j) qgd,[]⟩ (.inRegion (qJ (sqB (inn (sqA (sqB (sqB yB)))))) []::.inBlock 1::.code (sqB (sqB (sqB yB)))::YQ)) cs
theorem qc0{S:qgc->qg7->Prop}{j:Nat}(h:∀w,qjg 166 x.Wg w->S (qej x cs j) w)(w:qg7)(hF:qjg 166 x.Wg w):x.cfg.GM (x.cfg.AtGoS S) (3+0) (qct x cs j) w:=by
 refine Cfg.GM.of (C:=x.cfg) (Stop:=x.cfg.AtGoS S) ?_ (λ_ _ h=>h);simp only[qej,qct,YQ,yB,Q6,xD,x85,qkj,qgh,sqA,sqB,inn,qJ,tmx] at h ⊢;u_c qgf qa hF;u_reg qa hF;u_op qa hF;refine qip (λw₁ h₁=>?_);replace hF:=qa hF h₁;refine⟨rfl,_,born qgr (KJ x.Wg x.Nx x.A x.Fd x.Y x.V x.B),?_,?_,h _ hF⟩
 ·have hs:=stepG_spawn (P:=qgr) (main:=true) (w:=w₁) (w':=w₁) (b:=qgA 85) (cs:=cs) (i:=1) (rest:=[]) (d:=KJ x.Wg x.Nx x.A x.Fd x.Y x.V x.B) (f:=.func 139) (c:=jr x.Wg x.Nx x.A x.Fd x.Y x.V x.B)
   (ops:=(qJ (sqB (inn (sqA (sqB (sqB yB))))))) (o:=(qJ (sqB (inn (sqA (sqB (sqB yB))))))[1]'(by simp only[yB,Q6,x85,qkj,qgh,sqA,sqB,inn,qJ];decide)) (a:=⟨tmx x j (.bool true) (.tuple #[]) (KE x) (z21 j) qgd,[]⟩) (k:=.inBlock 1::.code (sqB (sqB (sqB yB)))::YQ) (by simp) (by simp only[yB,Q6,x85,qkj,qgh,sqA,sqB,inn,qJ];rfl) (by k_ne) (by
    simp only[yB,Q6,x85,qkj,qgh,sqA,sqB,inn,qJ,tmx,KE];go_simp;rfl) rfl
  refine Eq.trans ?_ (hs.trans ?_)
  ·simp only[YQ,yB,Q6,xD,x85,qkj,qgh,sqA,sqB,inn,qJ,tmx,KE,jr,pt];rfl
  ·have he:listed qgr (qgA 85).fn ⟨tmx x j (.bool true) (.tuple #[]) (KE x) (z21 j) qgd,[]⟩ ((qJ (sqB (inn (sqA (sqB (sqB yB))))))[1]'(by simp only[yB,Q6,x85,qkj,qgh,sqA,sqB,inn,qJ];decide)) w₁=#[]:=by
    unfold listed;have:((qjt (Act.eval ⟨tmx x j (.bool true) (.tuple #[]) (KE x) (z21 j) qgd,[]⟩) ((qJ (sqB (inn (sqA (sqB (sqB yB))))))[1]'(by simp only[yB,Q6,x85,qkj,qgh,sqA,sqB,inn,qJ];decide))).events qgr w₁ #[])=#[]:=by
     simp only[yB,Q6,x85,qkj,qgh,sqA,sqB,inn,qJ,tmx,KE];simp[go_sem]
    rw[this,seen_none]
   rw[he];simp only[YQ,yB,Q6,xD,x85,qkj,qgh,sqA,sqB,inn,qJ,tmx];rfl
 ·rintro hp ⟨W,hd⟩;exact⟨⟨⟨hF,W,hd⟩,hp.fz,hp.size,hp.os⟩,.inl ⟨rfl,λ_ h=>h⟩⟩
noncomputable def q5g(x:Ph4):qgm:=(qgA 85).at ⟨tmx x (min 4 x.N) (.bool false) (z19 (min 4 x.N)) (z20 x (min 4 x.N)) (z21 (min 4 x.N)) qgd,[]⟩ [.inRegion (qJ (sqA xD)) [0],.code (sqB xD)]
noncomputable def qcB(x:Ph4):qgm:=(qgA 85).at ⟨tmx x (min 4 x.N) (.bool false) (z19 (min 4 x.N)) (z20 x (min 4 x.N)) (z21 (min 4 x.N)) (.tuple #[]),[]⟩ [.inRegion (qJ (sqA xD)) [],.code (sqB xD)]
def F0(x:Ph4)(cs:List qgm)(g:qgc)(w:qg7):Prop:=g=G (qcB x) cs/\qjg 166 x.Wg w
theorem KW(hA:x.AnchW=ZP link x.Wg (q5g x) cs)(w:qg7)(hF:qjg 166 x.Wg w):x.cfg.GM x.cfg.AtKd 13 (q3m x cs (min 4 x.N)) w:=by
 refine Cfg.kd_of ?_;have hlt:decide (((min 4 x.N:Nat):Int)<((min 4 x.N:Nat):Int))=false:=decide_eq_false (by omega);have a6:x.cfg.AnchW=ZP link x.Wg (q5g x) cs:=hA;rw[a6];generalize hn:min 4 x.N=n at hlt;simp only[q5g,q3m,YQ,yB,Q6,xD,x85,qkj,qgh,sqA,sqB,inn,qJ,tmx,hn];u_c qgs qa hF;u_reg qa hF;u_op qa hF;u_c qgf qa hF;u_c qgs qa hF;u_cond false qa hF;u_exit qa hF;u_c qgs qa hF;u_reg qa hF;u_in qa hF;refine goes_call rfl rfl (by k_ne) rfl Y4.f_wait (nm_wait link) rfl ⟨by u_nil,?_⟩
 walk_nrmf waitFn
 exact Go.Co.waitStart (L:=link) Y4 _ hF
theorem qe5(hA:x.AnchW=ZP link x.Wg (q5g x) cs):∀r j,j+r=min 4 x.N->(∀w,qjg 166 x.Wg w->x.cfg.Spawns r (q3m x cs j) w)/\(0<j->∀w,qjg 166 x.Wg w->x.cfg.Spawns r (qej x cs (j - 1)) w):=by
 intro r;induction r with
 | zero=>
  intro j hj;have e:j=min 4 x.N:=by omega
  subst e;refine⟨λw hw=>⟨13,KW hA w hw⟩,λhp w hw=>⟨7+13,?_⟩⟩;have e:min 4 x.N - 1+1=min 4 x.N:=by omega
  exact KX (j:=min 4 x.N - 1) (by omega) (λw hw=>by rw[e];exact KW hA w hw) w hw
 | succ r ih=>
  intro j hj;have hin:=(ih (j+1) (by omega)).2 (by omega);rw[Nat.add_sub_cancel] at hin;have hd:∀w,qjg 166 x.Wg w->x.cfg.GM (x.cfg.AtKdS (x.cfg.Spawns r)) 24 (q3m x cs j) w:=q9d (N:=3+0) (by omega) (qc0 hin);refine⟨λw hw=>⟨24,hd w hw⟩,λhp w hw=>⟨7+24,?_⟩⟩;obtain⟨k,rfl⟩:∃k,j=k+1:=⟨j - 1,by omega⟩;exact KX (by omega) hd w hw
theorem qbl(hA:x.AnchW=ZP link x.Wg (q5g x) cs)(g:qgc)(w:qg7)(h:x.AnchW g w):g.status=.running:=by
 rw[hA] at h;obtain⟨T,rfl,_⟩:=h;rfl
theorem qdb(hA:x.AnchW=ZP link x.Wg (q5g x) cs)(a6:x.Fin=λg w=>qlA qgr true (LR 166 x.Wg) qmy (F0 x cs) 40 g w)(g:qgc)(w:qg7)(h:x.AnchW g w):∃m,x.cfg.GM x.cfg.AtW1 m g w:=by
 rw[hA] at h;have h1:=Go.Co.waitRound (L:=link) (Fin:=F0 x cs) Y4 (b₀:=qgA 85) (a₀:=⟨tmx x (min 4 x.N) (.bool false) (z19 (min 4 x.N)) (z20 x (min 4 x.N)) (z21 (min 4 x.N)) qgd,[]⟩) (ops₀:=qJ (sqA xD)) (i₀:=0) (rest₀:=[]) (k₀:=[.code (sqB xD)]) (cs:=cs) ?_ g w h
 ·refine⟨30,Cfg.GM.of h1 λg w hm=>?_⟩;refine Cfg.w1_of (C:=x.cfg) (F0:=F0 x cs) (λg w hg=>?_) ?_
  ·show x.Fin g w;rw[a6];exact hg
  ·have e:x.cfg.AnchW=x.AnchW:=rfl;rw[e,hA];exact hm
 ·intro w hw;refine⟨?_,hw⟩;simp only[qcB,xD,x85,qkj,qgh,sqA,sqB,inn,qJ,tmx];rfl
end
end
end Go.Proofs.YtidgnkmjgioapaaGreat
section
namespace Go.Co
open Go.Conc Go.ConcN Go.Sim
section
variable{P:qgl}{Post:qgb->qg7->Prop}{cl:Nat->Cl}{w:qg7}
theorem EE.of_goes{R:qg7->qg7->Prop}(hR:∀w d,R w (w.at d)){Stop:qgc->qg7->Prop}(hS:∀g d,Stop g (w.at d)->EE P Post cl g w):∀{n:Nat} {g:qgc} {d:Nat},qlA P true R qmy Stop n g (w.at d)->EE P Post cl g w:=by
 intro n;induction n with
 | zero=>exact λ{g d} h=>hS g d (h _ (hR _ _))
 | succ n ih=>
  intro g d h;rcases h with h | ⟨h0,h⟩
  ·exact hS g d (h _ (hR _ _))
  ·refine λd'=>E.step h0 λa6=>?_;obtain⟨g',w',es,e,⟨d1,d2⟩,hg⟩:=goes_elim (h (w.at a6) (hR (w.at d) a6));subst d1;subst d2;exact⟨g',w.at a6,#[],e,qg9 _,by simp,ih hg a6⟩
theorem EE.enterB{b:qgm}{a:Act}{k:List qkl}{cs:List qgm}{ops:Array qi6}{i:Nat}{rest:List Nat}{o:qi6}{f:qhs}{fn:Func}{c:qiw}{args:Array qhh}{a6:Array qgt}(ho:ops[i]?=some o)(hw:qhi o (qj7 ops a.tmps)=true)(hk:b.kind≠.early)(hop:o.op=.call { callee:=.value (.func f),args,argTypes:=a6 })(hf:P.funcs[f]?=some fn)(hname:(fn.name == "runtime.NumGoroutine")=false)(hb:fn.body=some c)(h:EE P Post cl (G ((base f).at { tmps:=args.map a.eval++qhk (fn.ntmps - (args.map a.eval).size) qgd,defers:=[] } [.code c]) (b.at a (.inRegion ops (i::rest)::k)::cs)) w) :EE P Post cl (G (b.at a (.inRegion ops (i::rest)::k)) cs) w :=
 EE.enter ho hw hk hop hf hname (by rw[hb];rfl) (by rw[enter_at _ hf hb];exact h)
theorem qaF{A o size:Nat}(h:cl A=.sync)(hs:A<size):EvG cl size 0 ⟨.cell ⟨A,o,none⟩,false,true⟩/\jw ⟨.cell ⟨A,o,none⟩,false,true⟩:=by
 refine⟨λx hx b hb=>?_,by simp[jw],by simp,by simp⟩;have hx':x=⟨.cell ⟨A,o,none⟩,false,.atomic⟩:=by simp[qi3,qiy] at hx;exact hx.symm
 subst hx';simp only[blk,qhc] at hb;subst hb;exact⟨hs,.inr (.inr ⟨h,by simp,by simp⟩)⟩
end
end Go.Co
namespace Go.Proofs.YtidgnkmjgioapaaGreat
open Go Go.RowKit Go.Conc Go.ConcN Go.ConcN.Gen Go.Conc.Lib Go.ConcR.Gen Go.Co Go.Sim
section
variable{x:Ph4}{cs:List qgm}
theorem after{Post:qgb->qg7->Prop}{cl:Nat->Cl}{w:qg7}{v:Bool}(hFd:w.heap[x.Fd]?=some (.cells #[.int .u32 (if v then 1 else 0)] 161 (0,0)))(hcl:cl x.Fd=.sync)(hc0:∀b,w.heap.size<=b->cl b=.mine 0)(hend:∀t todo,t.getD 6 qgd=.bool v->EE qgr Post cl (G { (qgA 85).at ⟨t,[]⟩ todo with mode:=.returning } cs) w):EE qgr Post cl (G (qcB x) cs) w:=by
 have hsz:x.Fd<w.heap.size:=(qg8.1 hFd).1;have hcell:∀d,(w.at d).cell? ⟨x.Fd,0,none⟩=some (.int .u32 (if v then 1 else 0)):=λd=>Qx hFd rfl;generalize hn:min 4 x.N=n;simp only[qcB,xD,x85,qkj,qgh,sqA,sqB,inn,qJ,tmx,hn];refine EE.region_end ?_;refine EE.seq ?_;refine EE.region ?_;simp only[qgF,qgq,qgx,qgG,qgz,qgB,qhg];refine EE.enterB rfl rfl (by k_ne) rfl qmD (by kernel_rfl) rfl ?_
 walk_nrmf qms
 refine EE.seq ?_;refine EE.region ?_;simp only[qgF,qgq,qgx,qgG,qgz,qgB,qhg];refine EE.value (.bool false) rfl rfl (by k_ne) (λ_=>by go_simp) (λ_=>by simp[go_sem]) ?_;walk_nrm;refine EE.region_end ?_;refine EE.seq ?_;refine EE.region ?_;simp only[qgF,qgq,qgx,qgG,qgz,qgB,qhg];refine EE.value (.pointer (some ⟨x.Fd,0,none⟩)) rfl rfl (by k_ne) (λ_=>by go_simp) (λ_=>by simp[go_sem]) ?_;walk_nrm;refine EE.value (.pointer (some ⟨x.Fd,0,none⟩)) rfl rfl (by k_ne) (λ_=>by go_simp) (λ_=>by simp[go_sem]) ?_;walk_nrm;refine EE.value (.pointer (some ⟨x.Fd,0,none⟩)) rfl rfl (by k_ne) (λ_=>by go_simp) (λ_=>by simp[go_sem]) ?_;walk_nrm;refine EE.raw w cl rfl (λd=>⟨_,ql4 rfl rfl (by k_ne) rfl Tryz.func180 (by kernel_rfl) (by kernel_rfl) (by kernel_rfl) .u32 (by kernel_rfl) rfl (hcell d),?_⟩) (qg9 _) (λ_ _=>rfl) hc0 ?_
 ·intro e he;simp at he;subst he;exact qaF hcl hsz
 walk_nrm;clear hcell hFd;cases v with
 | false=>
  simp only[if_false,qh2];refine EE.value (.bool false) rfl rfl (by k_ne) (λ_=>by go_simp) (λ_=>by simp[go_sem]) ?_;walk_nrm;refine EE.value (.bool false) rfl rfl (by k_ne) (λ_=>by go_simp) (λ_=>by simp[go_sem]) ?_;walk_nrm;refine EE.region_end ?_;refine EE.retS ?_;refine EE.leave1 rfl rfl qmD rfl ?_;walk_nrm;refine EE.value (.bool false) rfl rfl (by k_ne) (λ_=>by go_simp) (λ_=>by simp[go_sem]) ?_;walk_nrm;refine EE.region_end ?_;refine EE.retS ?_;exact hend _ _ rfl
 | true=>
  simp only[if_true];refine EE.value (.bool true) rfl rfl (by k_ne) (λ_=>by go_simp) (λ_=>by simp[go_sem]) ?_;walk_nrm;refine EE.value (.bool true) rfl rfl (by k_ne) (λ_=>by go_simp) (λ_=>by simp[go_sem]) ?_;walk_nrm;refine EE.region_end ?_;refine EE.retS ?_;refine EE.leave1 rfl rfl qmD rfl ?_;walk_nrm;refine EE.value (.bool true) rfl rfl (by k_ne) (λ_=>by go_simp) (λ_=>by simp[go_sem]) ?_;walk_nrm;refine EE.region_end ?_;refine EE.retS ?_;exact hend _ _ rfl
end
end Go.Proofs.YtidgnkmjgioapaaGreat
end
section
namespace Go.Proofs.YtidgnkmjgioapaaGreat
open Go Go.RowKit Go.Conc Go.ConcN Go.ConcN.Gen Go.Conc.Lib Go.ConcR.Gen Go.Co Go.Sim
namespace Ph4
noncomputable def on(x:Ph4)(cs:List qgm):Ph4:={ x with Fin:=λg w=>qlA qgr true (LR 166 x.Wg) qmy (F0 x cs) 40 g w,AnchW:=ZP link x.Wg (q5g x) cs }
theorem qfl{ty:qgt}{Wg:Nat}(w:qg7)(d:Nat):LR ty Wg w (w.at d):=λ⟨st,sm,h⟩=>⟨st,sm,h⟩
theorem all{x:Ph4}{cs:List qgm}(o:(x.on cs).Ok)(hend:∀t todo w (v:Bool),(v=true↔∃i,i<x.N/\x.bad i=true)->(x.on cs).cfg.Ph w->t.getD 6 qgd=.bool v->EE qgr x.Post (flat x.clA) (G { (qgA 85).at ⟨t,[]⟩ todo with mode:=.returning } cs) w):(x.on cs).cfg.Ok :=
 o.cfg (qbl (cs:=cs) rfl) (qdb (cs:=cs) rfl rfl) λW ls g w hF hJ hf hd hp=>by
  have a6:qlA qgr true (LR 166 x.Wg) qmy (F0 x cs) 40 g (w.at w.drawn):=hF;refine(EE.of_goes (λw d=>qfl w d) (λg d hg=>?_) a6) w.drawn;obtain⟨rfl,_⟩:=hg;refine after (v:=W.2) hd.2 ?_ (λb hb=>?_) λt todo ht=>hend t todo w W.2 (J.final hJ hf) hp ht
  ·have:=o.sync x.Fd (by simp[jks,on]);unfold flat;rw[show(x.on cs).clA x.Fd=.sync from this]
  ·have:=o.cla0 b (qgi hp.size hb);unfold flat;rw[show(x.on cs).clA b=.mine 0 from this]
end Ph4
def q1h(n lo:Nat)(cl:Nat->Cl)(b:Nat):Cl:=match cl b with | .mine 0=>if b<n then .ro lo else .mine 0 | c=>c
theorem JT{n lo b:Nat}{cl:Nat->Cl}(h:cl b=.mine 0)(hb:b<n):q1h n lo cl b=.ro lo:=by unfold q1h;rw[h];simp[hb]
theorem Yr{n lo b:Nat}{cl:Nat->Cl}(h:cl b=.mine 0)(hb:n<=b):q1h n lo cl b=.mine 0:=by unfold q1h;rw[h];simp;omega
theorem JR{n lo b:Nat}{cl:Nat->Cl}(h:cl b≠.mine 0):q1h n lo cl b=cl b:=by
 unfold q1h;cases hc:cl b with
 | mine g=>
  cases g with
  | zero=>exact absurd hc h
  | succ g=>rfl
 | ro lo'=>rfl
 | sync=>rfl
def vY(Y V B A:Nat)(bl:List Nat):List Nat:=0::Y::V::B::A::bl
theorem qfc{I:Nat}{Post:qgb->qg7->Prop}[JunkSet]{w0:qg7}{cl0:Nat->Cl}{ρ0:Ren}{yb pb vb ab:Option qho}{ps:List Par}{yc pn pc vn vc N ac:Nat}{lim:Int}{Y B V A Nx Fd Wg:Nat}{O:Ren}{wq:qg7}{w:qg7}{cl:Nat->Cl}{cs:List qgm}{l wl:List Int}{c:Nat->Nat->Int}{bl:List Nat}(h5:At5 Tp.prog I w0 cl0 ρ0 yb pb vb ab ps.length yc pn pc vn vc N ac lim Y B V A Nx Fd Wg O wq w cl)(c8:∀b∈bl,cl b=.mine 0/\∃cs e f,w.heap[b]?=some (.cells cs e f)/\∀(i:Nat) v,cs[i]?=some v->∃k m,v=.int k m)(h0:∃cs e f,w.heap[0]?=some (.cells cs e f)/\∀(i:Nat) v,cs[i]?=some v->∃k m,v=.int k m)(hc0:cl 0=.mine 0)(b7:∀a,yb=some a->a.block∈bl)(b9:∀a,pb=some a->a.block∈bl)(b8:∀a,vb=some a->a.block∈bl)(hab:∀a,ab=some a->a.block∈bl)(pars:qr 0 w.heap.size w (.slice yb ps.length yc) ps)(ints:qe 0 w.heap.size w (.slice vb vn vc) wl)(intp:qe 0 w.heap.size w (.slice pb pn pc) l)(cas:kW 0 w.heap.size w (.slice ab N ac) N c)(n5:ps.length<=5)(bmn:∀i,0<=pre Par.mn ps ps.length i/\pre Par.mn ps ps.length i<=1000)(bmx:∀i,0<=pre Par.mx ps ps.length i/\pre Par.mx ps ps.length i<=1000)(bc:∀i d,0<=c i d/\c i d<=1000)(hl:∀y∈l,0<=y/\y<ps.length)(ll:l.length<=1000)(hwl:∀y∈wl,0<=y/\y<5)(hN:N<=900000)(hend:∀t todo w6 cl6 (v:Bool),(v=true↔∃i,i<N/\(qp ps (ovr (c i) (pre Par.mn ps ps.length) wl wl.length) l && !qp ps (ovr (c i) (pre Par.mx ps ps.length) wl wl.length) l)=true)->(∀b,b<w.heap.size->cl b=.mine 0->w6.heap[b]?=w.heap[b]?)->w.heap.size<=w6.heap.size->w6.os=w.os->w6.output=w.output ->(∀b,cl b=.mine 0->cl6 b=.mine 0)->(∀b,w6.heap.size<=b->cl6 b=.mine 0)->t.getD 6 qgd=.bool v->EE qgr Post cl6 (G { (qgA 85).at ⟨t,[]⟩ todo with mode:=.returning } cs) w6) :EE qgr Post cl (G ((qgA 85).at ⟨qdD yb pb vb ab ps.length yc pn pc vn vc N ac lim Y B V A Nx Fd Wg 0 qgd undef undef undef,[]⟩ [.code Q6,.code xD]) cs) w:=by
 have e1:Q6=.block 0 (.loop yB):=by kernel_rfl
 rw[e1];refine EE.block ?_;refine EE.loop ?_;intro d;refine E.crowd (U:=Nat × Bool) (X:=Lam) λlo hlo=>?_
 let x:Ph4:={ W1:=w.at d,clA:=q1h w.heap.size lo cl,lo:=lo,Wg:=Wg,Nx:=Nx,A:=A,Fd:=Fd,Y:=Y,V:=V,B:=B,ps:=ps,lim:=lim,l:=l,wl:=wl,N:=N,c:=c,yb:=yb,yc:=yc,ab:=ab,ac:=ac,pv:=.slice pb pn pc,vv:=.slice vb vn vc,nds:=vY Y V B A bl,Post:=Post,Fin:=λ_ _=>False,AnchW:=λ_ _=>False }
 have qz:∀{b:Nat} {o:Obj},w.heap[b]?=some o->b<w.heap.size:=λh=>(qg8.1 h).1;have b0:∀b∈vY Y V B A bl,cl b=.mine 0/\b<w.heap.size:=by
  intro b hb;simp only[vY,qhH] at hb;obtain⟨d5,e0,f0,h0,c3⟩:=h0;rcases hb with rfl | rfl | rfl | rfl | rfl | hb
  ·exact⟨hc0,qz h0⟩
  ·exact⟨h5.cY,qz h5.hY⟩
  ·exact⟨h5.cV,qz h5.hV⟩
  ·exact⟨h5.cB,qz h5.hB⟩
  ·exact⟨h5.cA,qz h5.hA⟩
  ·obtain⟨k1,cs,e,f,k2,_⟩:=c8 b hb;exact⟨k1,qz k2⟩
 have c9:∀b∈vY Y V B A bl,x.clA b=.ro lo:=λb hb=>JT (b0 b hb).1 (b0 b hb).2;have b6:∀b∈[Wg,Nx,Fd],cl b=.sync/\b<w.heap.size:=by
  intro b hb;simp only[qhH,qif,or_false] at hb;rcases hb with rfl | rfl | rfl
  ·exact⟨h5.cWg,qz h5.hWg⟩
  ·exact⟨h5.cNx,qz h5.hNx⟩
  ·exact⟨h5.cFd,qz h5.hFd⟩
 have a6:∀{a:qho},a.block∈bl->a.block∈vY Y V B A bl:=λh=>by simp[vY,h]
 have d6:∀b∈vY Y V B A bl,BR x.r0 b b:=λb hb=>JB.2 ⟨(b0 b hb).2,rfl,.inl hb⟩;have a8:∀(q:Option qho) (m k:Nat),(∀a,q=some a->a.block∈bl)->@VR x.js x.r0 (.slice q m k) (.slice q m k):=λq m k hq=>by
  cases q with
  | none=>exact @VR.sliceNil x.js _ m k
  | some a=>exact @VR.slice x.js _ _ _ a.off a.spot m k (d6 _ (a6 (hq a rfl)))
 have a9:∀(v:qgb),@VR x.js x.r0 v v->∀(i:Nat) (u:qgb),(#[v]:Array qgb)[i]?=some u->@VR x.js x.r0 u u:=λv hv i u hu=>by
  cases i with
  | zero=>simp at hu;rw[<- hu];exact hv
  | succ i=>simp at hu
 have o:(x.on cs).Ok:={
  hlo:=hlo
  hY:=h5.hY
  hV:=h5.hV
  hB:=h5.hB
  hA:=h5.hA
  pars:=pars
  ints:=ints
  intp:=intp
  cas:=cas
  n5:=n5
  bmn:=bmn
  bmx:=bmx
  bc:=bc
  hl:=hl
  ll:=ll
  hwl:=hwl
  hN:=hN
  jlt:=λb hb=>(b6 b hb).2
  ne1:=by have:=h5.l2;show Nx≠Fd;omega
  ne2:=by have:=h5.l2;have:=h5.l3;show Wg≠Nx;omega
  ne3:=by have:=h5.l3;show Wg≠Fd;omega
  sync:=λb hb=>by
   have h1:=(b6 b hb).1;exact(JR (by rw[h1];simp)).trans h1
  nro:=c9
  nok:=by
   intro b hb;have hb':b∈vY Y V B A bl:=hb;simp only[vY,qhH] at hb';obtain⟨d5,e0,f0,h0,c3⟩:=h0;rcases hb' with rfl | rfl | rfl | rfl | rfl | hb'
   ·exact⟨_,_,_,h0,λi v hv=>by obtain⟨k,m,rfl⟩:=c3 i v hv;exact @VR.int (x.on cs).js _ k m⟩
   ·refine⟨_,_,_,h5.hY,λi v hv=>?_⟩;have hi:i=0\/i=1:=by
     have:=(qg8.1 hv).1;simp at this;omega
    rcases hi with rfl | rfl
    ·simp at hv;rw[<- hv];exact a8 _ _ _ b7
    ·simp at hv;rw[<- hv];exact @VR.int x.js _ _ _
   ·exact⟨_,_,_,h5.hV,a9 _ (a8 _ _ _ b8)⟩
   ·exact⟨_,_,_,h5.hB,a9 _ (a8 _ _ _ b9)⟩
   ·exact⟨_,_,_,h5.hA,a9 _ (a8 _ _ _ hab)⟩
   ·obtain⟨k1,d7,e,f,k2,k3⟩:=c8 b hb';refine⟨_,_,_,k2,λi v hv=>?_⟩;obtain⟨k,m,rfl⟩:=k3 i v hv;exact @VR.int x.js _ _ _
  n0:=by show 0∈vY Y V B A bl;simp[vY]
  nY:=by show Y∈vY Y V B A bl;simp[vY]
  nV:=by show V∈vY Y V B A bl;simp[vY]
  nB:=by show B∈vY Y V B A bl;simp[vY]
  nA:=by show A∈vY Y V B A bl;simp[vY]
  nyb:=λq oo n' c' e _=>by cases e;exact a6 (a:=⟨q,oo,none⟩) (b7 _ rfl)
  nvv:=λq oo n' c' e _=>by cases e;exact a6 (a:=⟨q,oo,none⟩) (b8 _ rfl)
  npv:=λq oo n' c' e _=>by cases e;exact a6 (a:=⟨q,oo,none⟩) (b9 _ rfl)
  nab:=λq oo n' c' e _=>by cases e;exact a6 (a:=⟨q,oo,none⟩) (hab _ rfl)
  cla0:=λb hb=>by
   have hb':w.heap.size<=b:=hb;exact Yr (h5.c0 b hb') hb' }
 refine⟨(x.on cs).cfg,rfl,rfl,rfl,rfl,Ph4.all o ?_,λb hb=>?_,?_,h5.hWg,(0,false),λ_=>.st,⟨h5.hNx,h5.hFd⟩,?_⟩
 ·intro t todo w6 v hv hp ht;refine hend t todo w6 _ v hv (λb hb hc=>?_) hp.size hp.os hp.output (λb hb=>?_) (λb hb=>?_) ht
  ·exact hp.fz b ⟨hb,JT hc hb⟩
  ·show flat (q1h w.heap.size lo cl) b=_;unfold flat;rcases qia b w.heap.size with a7 | a7
   ·rw[JT hb a7]
   ·rw[Yr hb a7]
  ·show flat (q1h w.heap.size lo cl) b=_;have a7:w.heap.size<=b:=qgi hp.size hb;unfold flat;rw[Yr (h5.c0 b a7) a7]
 ·have hb':b<w.heap.size:=hb;cases hc:cl b with
  | mine g=>
   cases g with
   | zero=>exact .inr ⟨rfl,JT hc hb'⟩
   | succ g=>exact .inl ((JR (by rw[hc];simp)).trans hc)
  | ro lo'=>exact .inl ((JR (by rw[hc];simp)).trans hc)
  | sync=>exact .inl ((JR (by rw[hc];simp)).trans hc)
 ·have hsp:=(qe5 (x:=x.on cs) (cs:=cs) rfl (min 4 N) 0 (by show 0+min 4 N=min 4 N;omega)).1 (w.at d) ⟨_,_,h5.hWg⟩;exact hsp
 ·exact⟨qh1 _,λh=>(by cases h),λ_ i _ h=>absurd h (Nat.not_lt_zero i),λk hk=>absurd hk (Nat.not_lt_zero k)⟩
end Go.Proofs.YtidgnkmjgioapaaGreat
end
namespace Go.Proofs.YtidgnkmjgioapaaGreat
section
open Go Go.RowKit Go.Conc Go.ConcN Go.ConcN.Gen Go.Conc.Lib Go.ConcR.Gen Go.Co Go.Sim
def qT(w:qg7)(B:Nat):Prop:=∃cs e f,w.heap[B]?=some (.cells cs e f)/\∀(i:Nat) v,cs[i]?=some v->∃k m,v=.int k m
def qy(w:qg7)(v:qgb):Prop:=∀ad n c,v=.slice (some ad) n c->qT w ad.block
section
variable[JunkSet]{Q:qgl}{Z:Ren}{wq w:qg7}{I:Nat}
theorem qcp{cs cs':Array qgb}(h:AsR Z cs cs')(hi:∀(i:Nat) v,cs[i]?=some v->∃k m,v=.int k m):cs'=cs:=by
 refine Array.ext h.1.symm λi h1 h2=>?_;obtain⟨k,m,e⟩:=hi i cs[i] (qgC h2);have hv:=h.2 i _ _ (qgC h2) (qgC h1);rw[e] at hv ⊢;generalize cs'[i]=y at hv;cases hv;rfl
theorem q8C(hw:WR Q I Z wq w)(a6:∀i,¬ JunkSet.jk i){i j:Nat}(hij:BR Z i j){cs:Array qgb}{e:qgt}{f:Nat × Nat}(h:wq.heap[i]?=some (.cells cs e f))(hi:∀(i:Nat) v,cs[i]?=some v->∃k m,v=.int k m):∃f',w.heap[j]?=some (.cells cs e f'):=by
 rcases hw.obj i j _ hij h with⟨h1,_⟩ | ⟨_,o',h2,h3⟩
 ·exact absurd h1 (a6 i)
 ·cases h3 with
  | cells e ha _=>
   rw[qcp ha hi] at h2;exact⟨_,h2⟩
theorem q8A(hw:WR Q I Z wq w)(a6:∀i,¬ JunkSet.jk i){i j:Nat}(hij:BR Z i j)(h:qT wq i):qT w j:=by
 obtain⟨cs,e,f,h1,h2⟩:=h;obtain⟨f',h3⟩:=q8C hw a6 hij h1 h2;exact⟨cs,e,f',h3,h2⟩
theorem q4j(hw:WR Q I Z wq w)(a6:∀i,¬ JunkSet.jk i){i j:Nat}(hij:BR Z i j)(hI:qT wq i){cs:Array qgb}{e:qgt}{f:Nat × Nat}(h:wq.heap[i]?=some (.cells cs e f)):∃f',w.heap[j]?=some (.cells cs e f')/\j<w.heap.size:=by
 obtain⟨a7,e1,f1,h1,h2⟩:=hI;rw[h] at h1;cases h1;obtain⟨f',h3⟩:=q8C hw a6 hij h h2;exact⟨f',h3,(qg8.1 h3).1⟩
theorem q60(hw:WR Q I Z wq w)(a6:∀i,¬ JunkSet.jk i){lo hi:Nat}{v v':qgb}{l:List Int}(h:qe lo hi wq v l)(hI:qy wq v)(hv:VR Z v v'):qe 0 w.heap.size w v' l:=by
 obtain⟨base,cap,rfl,hl,hr⟩:=h;cases hv with
 | sliceNil=>exact⟨none,cap,rfl,hl,λhne=>by obtain⟨B,o,cs,fr,e,_⟩:=hr hne;cases e⟩
 | @slice i j off spot _ _ hij=>
  refine⟨_,cap,rfl,hl,λhne=>?_⟩;obtain⟨B,o,cs,fr,e,_,_,h4,h5⟩:=hr hne;cases e;obtain⟨f',h6,h7⟩:=q4j hw a6 hij (hI _ _ _ rfl) h4;exact⟨j,off,cs,f',rfl,qh1 _,h7,h6,h5⟩
theorem qbB(hw:WR Q I Z wq w)(a6:∀i,¬ JunkSet.jk i){lo hi:Nat}{v v':qgb}{l:List Par}(h:qr lo hi wq v l)(hI:qy wq v)(hv:VR Z v v'):qr 0 w.heap.size w v' l:=by
 obtain⟨base,cap,rfl,hl,hr⟩:=h;cases hv with
 | sliceNil=>exact⟨none,cap,rfl,hl,λhne=>by obtain⟨B,o,cs,fr,e,_⟩:=hr hne;cases e⟩
 | @slice i j off spot _ _ hij=>
  refine⟨_,cap,rfl,hl,λhne=>?_⟩;obtain⟨B,o,cs,fr,e,_,_,h4,h5⟩:=hr hne;cases e;obtain⟨f',h6,h7⟩:=q4j hw a6 hij (hI _ _ _ rfl) h4;exact⟨j,off,cs,f',rfl,qh1 _,h7,h6,h5⟩
theorem q8B(hw:WR Q I Z wq w)(a6:∀i,¬ JunkSet.jk i){lo hi:Nat}{v v':qgb}{n:Nat}{c:Nat->Nat->Int}(h:kW lo hi wq v n c)(hI:qy wq v)(hv:VR Z v v'):kW 0 w.heap.size w v' n c:=by
 obtain⟨base,cap,rfl,hl,hr⟩:=h;cases hv with
 | sliceNil=>exact⟨none,cap,rfl,hl,λhne=>by obtain⟨B,o,cs,ty,fr,e,_⟩:=hr hne;cases e⟩
 | @slice i j off spot _ _ hij=>
  refine⟨_,cap,rfl,hl,λhne=>?_⟩;obtain⟨B,o,cs,ty,fr,e,_,_,h4,h5⟩:=hr hne;cases e;obtain⟨f',h6,h7⟩:=q4j hw a6 hij (hI _ _ _ rfl) h4;exact⟨j,off,cs,ty,f',rfl,qh1 _,h7,h6,h5⟩
theorem JO{cl:Nat->Cl}(hw:WR Q I Z wq w)(a6:∀i,¬ JunkSet.jk i)(ho:kL cl Z){q q0:Option qho}{n c:Nat}(hI:qy wq (.slice q0 n c))(hv:VR Z (.slice q0 n c) (.slice q n c)):∀ad,q=some ad->cl ad.block=.mine 0/\qT w ad.block:=by
 rintro ad rfl;cases hv with
 | slice off spot _ _ hij=>exact⟨ho _ _ hij,q8A hw a6 hij (hI _ _ _ rfl)⟩
theorem q8v{v:qgb}(h:VR Z qgd v):v=qgd:=by
 unfold qgd at h;cases h with
 | tuple hs _=>
  have:=qlj (by simpa using hs.symm);rw[this];rfl
theorem qex{q:Option qho}{n c:Nat}{m:Int}{y:qgb}(h:VR Z (.agg #[.slice q n c,.int .i64 m]) y):∃q',y=.agg #[.slice q' n c,.int .i64 m]/\VR Z (.slice q n c) (.slice q' n c):=by
 cases h with
 | @agg _ a' hs hv=>
  have h2:a'.size=2:=by simpa using hs.symm
  have h0:=hv 0 (.slice q n c) _ rfl (qgC (by omega));have h1:=hv 1 (.int .i64 m) _ rfl (qgC (by omega));obtain⟨q',e0⟩:∃q',a'[0]'(by omega)=.slice q' n c:=by
   generalize a'[0]'(by omega)=z at h0;cases h0<;>exact⟨_,rfl⟩
  have e1:a'[1]'(by omega)=.int .i64 m:=by
   generalize a'[1]'(by omega)=z at h1;cases h1;rfl
  rw[e0] at h0;refine⟨q',?_,h0⟩
  congr 1
  refine Array.ext (by simp[h2]) λi h3 h4=>?_;obtain rfl | rfl:i=0\/i=1:=by omega
  ·exact e0
  ·exact e1
theorem qf6{x0 x1 x2:qgb}{tp:Array qgb}{n:Nat}(h:AsR Z (#[x0,x1,x2]++qhk n qgd) tp):∃y0 y1 y2,tp=#[y0,y1,y2]++qhk n qgd/\VR Z x0 y0/\VR Z x1 y1/\VR Z x2 y2:=by
 have hs:tp.size=3+n:=by rw[<- h.1];simp
 have g:∀i (hi:i<tp.size) x,(#[x0,x1,x2]++qhk n qgd:Array qgb)[i]?=some x->VR Z x tp[i]:=λi hi x hx=>h.2 i x _ hx (qgC hi);refine⟨tp[0]'(by omega),tp[1]'(by omega),tp[2]'(by omega),?_,g 0 (by omega) x0 (by simp[qk1]),g 1 (by omega) x1 (by simp[qk1]),g 2 (by omega) x2 (by simp[qk1])⟩;refine Array.ext (by simp[hs]) λi h1 h2=>?_;by_cases hi:i<3
 ·obtain rfl | rfl | rfl:i=0\/i=1\/i=2:=by omega
  all_goals simp[qox]
 ·have h3:i - 3<n:=by omega
  have e:(#[x0,x1,x2]++qhk n qgd:Array qgb)[i]?=some qgd:=by
   rw[Array.getElem?_append_right (by simp;omega),qlb];simp[h3]
  have:=q8v (g i h1 qgd e);rw[this];simp[qox,hi]
end
def Cas(N:Nat)(c:Nat->Nat->Int)(wq:qg7)(v:qgb)(u:qg7):Prop:=kW 0 u.heap.size u v N c/\qy u v/\(wq.tp u.tape).grownBy u none
theorem q6v:Tryz.f85.results=#[.tmp 6]:=rfl
theorem qay:Tryz.f85.ntmps=24:=rfl
section
variable[J:JunkSet]{f:qhs}{Post:qgb->qg7->Prop}{W:qg7}
theorem EL.doubtful(D:Two Tp.prog qgr)(hok:JunkSet.okf 137)(a6:∀i,¬ JunkSet.jk i)(hin:Tp.prog.inits.idxOf? f=none)(hfs:∃g,Tp.prog.funcs[f]?=some g/\Tryz.prog.funcs[f]?=some g){b:qgm}{a:Act}{k:List qkl}{cs:List qgm}{wq:qg7}(hb:Bot f cs)(hs:Tp.prog.funcs[b.fn]?=Tryz.prog.funcs[b.fn]?){ops:Array qi6}{i:Nat}{rest:List Nat}{o:qi6}(ho:ops[i]?=some o)(hw:qhi o (qj7 ops a.tmps)=true){ybq pbq vbq:Option qho}{ps:List Par}{l wl:List Int}{yc pc vc N:Nat}{c:Nat->Nat->Int}{lim:Int}(c8:∀T,(qjt a.eval o).run Tp.prog (wq.tp T)=.ok (.enter 85 #[.agg #[.slice ybq ps.length yc,.int .i64 lim],.slice pbq l.length pc,.slice vbq wl.length vc]) (wq.tp T))(pars:qr 0 wq.heap.size wq (.slice ybq ps.length yc) ps)(yi:qy wq (.slice ybq ps.length yc))(intp:qe 0 wq.heap.size wq (.slice pbq l.length pc) l)(pi:qy wq (.slice pbq l.length pc))(ints:qe 0 wq.heap.size wq (.slice vbq wl.length vc) wl)(vi:qy wq (.slice vbq wl.length vc))(h0:qT wq 0)(n5:ps.length<=5)(bmn:∀i,0<=pre Par.mn ps ps.length i/\pre Par.mn ps ps.length i<=1000)(bmx:∀i,0<=pre Par.mx ps ps.length i/\pre Par.mx ps ps.length i<=1000)(bc:∀i d,0<=c i d/\c i d<=1000)(hl:∀y∈l,0<=y/\y<ps.length)(ll:l.length<=1000)(hwl:∀y∈wl,0<=y/\y<5)(hN:N<=900000)(d6:∀T,qhf Tp.prog 137 #[.agg #[.slice ybq ps.length yc,.int .i64 lim],.slice vbq wl.length vc] (wq.tp T) λe u=>∃v,e=.returned v/\Cas N c wq v u)(hend:∀u (v:Bool),(v=true↔∃i,i<N/\(qp ps (ovr (c i) (pre Par.mn ps ps.length) wl wl.length) l && !qp ps (ovr (c i) (pre Par.mx ps ps.length) wl wl.length) l)=true)->(wq.tp u.tape).grownBy u none ->EL Tp.prog qgr f Post W (G ((b.at a (.inRegion ops (i::rest)::k)).finish (.bool v)) cs) u) :EL Tp.prog qgr f Post W (G (b.at a (.inRegion ops (i::rest)::k)) cs) wq:=by
 obtain⟨fq,e5,d9⟩:∃fq,Tp.prog.funcs[85]?=some fq/\fq.ntmps=Tryz.f85.ntmps:=by
  have h1:(Tp.prog.funcs[85]?).map (·.ntmps)=some 24:=by kernel_rfl
  cases hq:Tp.prog.funcs[85]? with
  | none=>rw[hq] at h1;cases h1
  | some fq=>rw[hq] at h1;exact⟨fq,rfl,by simpa using h1⟩
 refine EL.enterK D hb hs ho hw c8 ne85 e5 Tryz.func85 d9 (c0:=Tryz.f85.body.getD .skip) (by kernel_rfl) ?_;intro Z tp c' g6 pre' w cl hcs hK;rw[qay] at hK;obtain⟨y0,y1,y2,rfl,v0,v1,v2⟩:=qf6 (n:=21) (by simpa using hK.tm);obtain⟨yb,rfl,vy⟩:∃yb,y0=.agg #[.slice yb ps.length yc,.int .i64 lim]/\VR Z (.slice ybq ps.length yc) (.slice yb ps.length yc):=qex v0;obtain⟨pb,rfl⟩:∃pb,y1=.slice pb l.length pc:=by cases v1<;>exact⟨_,rfl⟩
 obtain⟨vb,rfl⟩:∃vb,y2=.slice vb wl.length vc:=by cases v2<;>exact⟨_,rfl⟩
 have b7:EE qgr Post cl (G ((qgA 85).at ⟨#[.agg #[.slice yb ps.length yc,.int .i64 lim],.slice pb l.length pc,.slice vb wl.length vc]++qhk 21 qgd,[]⟩ [.code (Tryz.f85.body.getD .skip)]) (c'::pre')) w:=by
  refine qf1 D hok (Rc:=Cas N c wq) hK.c0 hK.ln hK.wr hK.gl hK.own v0 v2 a6 d6 (λv u h=>by obtain⟨⟨b1,c1,e,_⟩,_⟩:=h;exact⟨b1,N,c1,e⟩) ?_;intro O wq1 v Y B V A Nx Fd Wg ab N' ac w5 cl5 e9 b6 h5;obtain⟨b0,d7,a8⟩:=e9;obtain⟨b1,c1,rfl,g8,g9⟩:=id b0;obtain⟨rfl,rfl⟩:N'=N/\ac=c1:=by cases b6<;>exact⟨rfl,rfl⟩
  have gb:∀{B:Nat},qT wq B->qT wq1 B:=λ⟨g5,e,g,h1,h2⟩=>⟨g5,e,g,by rw[a8.block _ (qg8.1 h1).1 (by simp)];exact h1,h2⟩;have gi:∀{v:qgb},qy wq v->qy wq1 v:=λh ad n c e=>gb (h ad n c e);have b8:=vy.mono h5.le;have c9:=v1.mono h5.le;have c3:=v2.mono h5.le;have t1:=JO h5.wr a6 h5.own (gi yi) b8;have t2:=JO h5.wr a6 h5.own (gi pi) c9;have t3:=JO h5.wr a6 h5.own (gi vi) c3;have t4:=JO h5.wr a6 h5.own d7 b6
  let bl:List Nat:=(yb.toList++pb.toList++vb.toList++ab.toList).map (·.block)
  have e7:∀b∈bl,cl5 b=.mine 0/\qT w5 b:=by
   intro b hb;simp only[bl,qjr,qiD,qpt] at hb;obtain⟨ad,(((h | h) | h) | h),rfl⟩:=hb
   ·exact t1 ad h
   ·exact t2 ad h
   ·exact t3 ad h
   ·exact t4 ad h
  have a7:∀{q:Option qho},q∈[yb,pb,vb,ab]->∀ad,q=some ad->ad.block∈bl:=by
   intro q hq ad e;subst e;simp only[qhH,qif,or_false] at hq;simp only[bl,qjr,qiD,qpt];refine⟨ad,?_,rfl⟩;rcases hq with h | h | h | h<;>simp[<- h]
  have d8:BR O 0 0:=(hK.gl 0 (qh1 _)).mono h5.le;refine qfc h5 e7 ?_ (h5.own _ _ d8) (a7 (by simp)) (a7 (by simp)) (a7 (by simp)) (a7 (by simp)) (qbB h5.wr a6 (show qr 0 wq.heap.size wq1 _ ps from pars.kept (w:=wq.tp wq1.tape) a8 (by simp)) (gi yi) b8) (q60 h5.wr a6 (show qe 0 wq.heap.size wq1 _ wl from ints.kept (w:=wq.tp wq1.tape) a8 (by simp)) (gi vi) c3) (q60 h5.wr a6 (show qe 0 wq.heap.size wq1 _ l from intp.kept (w:=wq.tp wq1.tape) a8 (by simp)) (gi pi) c9) (q8B h5.wr a6 b0 d7 b6) n5 bmn bmx bc hl ll hwl hN ?_
  ·obtain⟨cs,e,g,h0,e4⟩:=h0;have h1:wq1.heap[0]?=some (.cells cs e g):=by rw[a8.block 0 (qg8.1 h0).1 (by simp)];exact h0
   exact q8A h5.wr a6 d8 ⟨cs,e,g,h1,e4⟩
  ·intro t todo w6 cl6 v hv hfz hsz d5 hout a9 e6 ht;have e8:W.heap.size<=w.heap.size:=hK.kp.size;have c5:∀b,b<W.heap.size->cl5 b=.mine 0:=λb hb=>(h5.cold b (qgp hb e8)).trans (hK.om b hb);have g7:w.heap.size<=w5.heap.size:=h5.kp.size;refine EE.pure (g':=G (c'.finish (.bool v)) pre') rfl (λw=>?_) λd=>?_
   ·have hr:(qjo qkj t).run qgr w=.ok (.bool v) w:=by rw[<- ht];exact results_tmp q6v t qgr w
    exact stepG_leave (P:=qgr) (main:=true) (b:=qgA 85) (a:=⟨t,[]⟩) (cs:=pre') (c:=c') (todo:=todo) (fn:=qkj) rfl rfl Tryz.func85 hr (qmk q6v _ _)
   ·have b9:WR Tp.prog W.heap.size O wq1 w6:=h5.wr.rely hsz (by rw[d5]) (λi j hij _=>hfz j (h5.wr.lt _ _ hij) (h5.own _ _ hij)) (λi j _ h=>absurd h (a6 i));have hE:=hend wq1 v hv a8;rw[hcs] at hE;refine EL.resume hE hin hfs h5.le hK.top hK.rest (.bool v) (q8t b9 d) h5.ln hK.gl (λi j hij=>a9 j (h5.own i j hij)) e6 ⟨λj hj hn=>?_,d5.trans (h5.kp.os.trans hK.kp.os),hout.trans (h5.kp.output.trans hK.kp.output),?_,λi j hij hi=>?_,?_⟩ λb hb=>a9 b (c5 b hb)
    ·show w6.heap[j]?=_;rw[hfz j (by omega) (c5 j hj),h5.kp.old j (by omega) hn,hK.kp.old j hj λi hi=>hn i (hi.mono h5.le)]
    ·show W.heap.size<=w6.heap.size;omega
    ·rcases h5.fr i j hij with h | h
     ·exact hK.kp.inn i j h hi
     ·omega
    ·show W.heap.size<=w6.heap.size;omega
 have:=b7 w.drawn;exact this
end
end
section
open Go Go.RowKit Go.Co Go.Sim
def q5y(ps:List Par)(wl:List Int):Nat:=(jq ps wl).length
def ZK(ps:List Par)(wl:List Int)(i d:Nat):Int:=((jq ps wl)[i]?.getD λ_=>0) d
theorem qd3(ps:List Par)(hp:∀p∈ps,0<=p.mn/\p.mn<=p.mx/\p.mx<=1000)(wl:List Int):∀g∈jq ps wl,∀d,0<=g d/\g d<=1000:=by
 have key:∀(wl:List Int) (L:List (Nat->Int)),(∀g∈L,∀d,0<=g d/\g d<=1000)->∀g∈wl.foldl (kU ps) L,∀d,0<=g d/\g d<=1000:=by
  intro wl;induction wl with
  | nil=>exact λL h=>h
  | cons x wl ih=>
   intro L h;refine ih _ λg hg d=>?_;unfold kU at hg;split at hg
   ·rename_i p a6
    obtain⟨h1,h2,h3⟩:=hp p (qgj a6);unfold yW at hg;rw[qkd] at hg;obtain⟨g0,a7,hg⟩:=hg;unfold kP at hg;rw[qjr] at hg;obtain⟨m,hm,rfl⟩:=hg;rw[qi4] at hm;unfold kOf at hm;unfold Qz;split
    ·omega
    ·exact h g0 a7 d
   ·exact h g hg d
 exact key wl _ λg hg d=>by simp at hg;subst hg;simp
theorem qd4(ps:List Par)(hp:∀p∈ps,0<=p.mn/\p.mn<=p.mx/\p.mx<=1000)(wl:List Int)(i d:Nat):0<=ZK ps wl i d/\ZK ps wl i d<=1000:=by
 unfold ZK;cases h:(jq ps wl)[i]? with
 | none=>simp
 | some g=>exact qd3 ps hp wl g (qgj h) d
theorem qet{lo hi:Nat}{yv vv:qgb}{ps:List Par}{lim:Int}{wl:List Int}{wq:qg7}(hY:ji lo hi wq yv ps lim)(hI:qe lo hi wq vv wl)(hhi:hi<=wq.heap.size)(h5:ps.length<=5)(hx:∀x∈wl,0<=x/\x<ps.length)(hp:∀p∈ps,0<=p.mn/\p.mn<=p.mx/\p.mx<=1000)(hN:∀j,j<=wl.length->(jq ps (wl.take j)).length<=900000)(T:Nat->qih->Nat) :qhf Tp.prog 137 #[yv,vv] (wq.tp T) λe u=>∃v,e=.returned v/\Cas (q5y ps wl) (ZK ps wl) wq v u:=by
 refine(q8i lo hi yv vv ps lim wl (wq.tp T) hY hI hhi h5 hx hp hN).mono ?_;rintro e u ⟨v,rfl,hg,ho,hi⟩;have a8:q5y ps wl<=900000:=by have:=hN wl.length (qg9 _);rwa [qha] at this
 refine⟨v,rfl,?_,?_,?_⟩
 ·rcases ho.2 with⟨rfl,h0⟩ | ⟨g,cap,cur,rfl,hb,hgt,_,_,_,htake⟩
  ·have a7:q5y ps wl=0:=h0;exact⟨none,0,by rw[a7],by omega,λh=>by omega⟩
  ·refine⟨_,cap,rfl,by omega,λ_=>⟨g,0,cur,101,_,rfl,qh1 _,(qg8.1 hgt).1,hgt,λi hi d hd=>?_⟩⟩;have a6:i<(jq ps wl).length:=hi;have h1:=q0w (jq ps wl) i _ (qge a6) d hd;rw[<- htake,qlp] at h1;split at h1
   ·rw[qgz];unfold ZK;rw[qge a6];simpa using h1
   ·cases h1
 ·intro ad n c e;subst e;exact hi ad.block rfl
 ·have ht:u.tape=T:=hg.tape;rw[ht];exact hg
end
section
open Go Go.RowKit Go.Co Go.Sim Go.Conc Go.ConcN
theorem q9G{ps:List Par}{f:Par->Int}(hf:∀p∈ps,0<=f p/\f p<=1000)(k i:Nat):0<=pre f ps k i/\pre f ps k i<=1000:=by
 unfold pre;split
 ·cases h:ps[i]? with
  | none=>simp
  | some p=>exact hf p (qgj h)
 ·simp
def Qf(ps:List Par)(l wl:List Int):Prop:=∃i,i<q5y ps wl/\(qp ps (ovr (ZK ps wl i) (pre Par.mn ps ps.length) wl wl.length) l && !qp ps (ovr (ZK ps wl i) (pre Par.mx ps ps.length) wl wl.length) l)=true
section
variable[J:JunkSet]{f:qhs}{Post:qgb->qg7->Prop}{W:qg7}
theorem EL.doubt(D:Two Tp.prog qgr)(hok:JunkSet.okf 137)(a7:∀i,¬ JunkSet.jk i)(hin:Tp.prog.inits.idxOf? f=none)(hfs:∃g,Tp.prog.funcs[f]?=some g/\Tryz.prog.funcs[f]?=some g){b:qgm}{a:Act}{k:List qkl}{cs:List qgm}{wq:qg7}(hb:Bot f cs)(hs:Tp.prog.funcs[b.fn]?=Tryz.prog.funcs[b.fn]?){ops:Array qi6}{i:Nat}{rest:List Nat}{o:qi6}(ho:ops[i]?=some o)(hw:qhi o (qj7 ops a.tmps)=true){ybq pbq vbq:Option qho}{ps:List Par}{l wl:List Int}{yc pc vc:Nat}{lim:Int}(a6:∀T,(qjt a.eval o).run Tp.prog (wq.tp T)=.ok (.enter 85 #[.agg #[.slice ybq ps.length yc,.int .i64 lim],.slice pbq l.length pc,.slice vbq wl.length vc]) (wq.tp T))(pars:qr 0 wq.heap.size wq (.slice ybq ps.length yc) ps)(yi:qy wq (.slice ybq ps.length yc))(intp:qe 0 wq.heap.size wq (.slice pbq l.length pc) l)(pi:qy wq (.slice pbq l.length pc))(ints:qe 0 wq.heap.size wq (.slice vbq wl.length vc) wl)(vi:qy wq (.slice vbq wl.length vc))(h0:qT wq 0)(n5:ps.length<=5)(hp:∀p∈ps,0<=p.mn/\p.mn<=p.mx/\p.mx<=1000)(hl:∀y∈l,0<=y/\y<ps.length)(ll:l.length<=1000)(hwl:∀y∈wl,0<=y/\y<ps.length)(hN:∀j,j<=wl.length->(jq ps (wl.take j)).length<=900000)(hend:∀u (v:Bool),(v=true↔Qf ps l wl)->(wq.tp u.tape).grownBy u none->EL Tp.prog qgr f Post W (G ((b.at a (.inRegion ops (i::rest)::k)).finish (.bool v)) cs) u) :EL Tp.prog qgr f Post W (G (b.at a (.inRegion ops (i::rest)::k)) cs) wq:=by
 have a8:q5y ps wl<=900000:=by have:=hN wl.length (qg9 _);rwa [qha] at this
 exact EL.doubtful D hok a7 hin hfs hb hs ho hw (N:=q5y ps wl) (c:=ZK ps wl) a6 pars yi intp pi ints vi h0 n5 (q9G (λp h=>by have:=hp p h;omega) _) (q9G (λp h=>by have:=hp p h;omega) _) (qd4 ps hp wl) hl ll (λy hy=>by have:=hwl y hy;omega) a8
  (qet ⟨_,rfl,pars⟩ ints (qg9 _) n5 hwl hp hN) λu v hv hg=>hend u v hv hg
end
end
section
open Go Go.RowKit Go.Co
section
variable{lo hi O:Nat}{w w':qg7}{v:qgb}
theorem kD{cs cs':Array qgb}{e e':qgt}{f f':Nat × Nat}{B:Nat}(h:w.heap[B]?=some (.cells cs e f))(hO:w.heap[O]?=some (.cells cs' e' f'))(hne:e≠e'):B≠O:=by
 rintro rfl;rw[h] at hO;cases hO;exact hne rfl
theorem qe.kept_ne{l:List Int}(h:qe lo hi w v l)(hg:w.grownBy w' (some O)){cs':Array qgb}{f':Nat × Nat}(hO:w.heap[O]?=some (.cells cs' 29 f')):qe lo hi w' v l:=by
 obtain⟨base,cap,rfl,hl,hr⟩:=h;refine⟨base,cap,rfl,hl,λhne=>?_⟩;obtain⟨B,o,cs,fr,e1,e2,e3,e4,e5⟩:=hr hne;exact⟨B,o,cs,fr,e1,e2,e3,blk hg (λe=>kD e4 hO (by decide) (by cases e;rfl)) e4,e5⟩
theorem qr.kept_ne{l:List Par}(h:qr lo hi w v l)(hg:w.grownBy w' (some O)){cs':Array qgb}{f':Nat × Nat}(hO:w.heap[O]?=some (.cells cs' 29 f')):qr lo hi w' v l:=by
 obtain⟨base,cap,rfl,hl,hr⟩:=h;refine⟨base,cap,rfl,hl,λhne=>?_⟩;obtain⟨B,o,cs,fr,e1,e2,e3,e4,e5⟩:=hr hne;exact⟨B,o,cs,fr,e1,e2,e3,blk hg (λe=>kD e4 hO (by decide) (by cases e;rfl)) e4,e5⟩
theorem qT.kept_ne{B:Nat}(h:qT w B)(hg:w.grownBy w' (some O)){a:Option qho}{n c:Nat}{f':Nat × Nat}(hO:w.heap[O]?=some (.cells #[.slice a n c] 29 f')):qT w' B:=by
 obtain⟨cs,e,f,h1,h2⟩:=h;refine⟨cs,e,f,blk hg (λe=>?_) h1,h2⟩;cases e;rw[h1] at hO;cases hO;obtain⟨k,m,e⟩:=h2 0 _ rfl;cases e
theorem qy.kept_ne(h:qy w v)(hg:w.grownBy w' (some O)){a:Option qho}{n c:Nat}{f':Nat × Nat}(hO:w.heap[O]?=some (.cells #[.slice a n c] 29 f')):qy w' v:=λad m k e=>qT.kept_ne (h ad m k e) hg hO
end
end
section
open Go Go.RowKit Go.Co Go.Sim Go.Conc Go.ConcN
structure xF(w:qg7)(O Y L:Nat)(yb:Option qho)(ps:List Par)(yc:Nat)(lim:Int)(pb:Option qho)(l:List Int)(pc:Nat):Prop where
 out:∃b n c,w.heap[O]?=some (.cells #[.slice b n c] 29 (0,0))
 ya:w.heap[Y]?=some (.cells #[.slice yb ps.length yc,.int .i64 lim] 91 (0,0))
 pa:w.heap[L]?=some (.cells #[.slice pb l.length pc] 29 (0,0))
 ne:O≠L
 pars:qr 0 w.heap.size w (.slice yb ps.length yc) ps
 yi:qy w (.slice yb ps.length yc)
 ints:qe 0 w.heap.size w (.slice pb l.length pc) l
 pi:qy w (.slice pb l.length pc)
 h0:qT w 0
theorem xF.kept{w w':qg7}{O Y L:Nat}{yb:Option qho}{ps:List Par}{yc:Nat}{lim:Int}{pb:Option qho}{l:List Int}{pc:Nat}(h:xF w O Y L yb ps yc lim pb l pc)(hg:w.grownBy w' (some O))(ho:∃b n c,w'.heap[O]?=some (.cells #[.slice b n c] 29 (0,0))):xF w' O Y L yb ps yc lim pb l pc:=by
 obtain⟨b,n,c,hO⟩:=h.out;refine⟨ho,blk hg (λe=>kD h.ya hO (by decide) (by cases e;rfl)) h.ya,blk hg (λe=>h.ne (by cases e;rfl)) h.pa,h.ne,(h.pars.kept_ne hg hO).mono (qg9 _) hg.size,h.yi.kept_ne hg hO,(h.ints.kept_ne hg hO).mono (qg9 _) hg.size,h.pi.kept_ne hg hO,?_⟩;obtain⟨cs,e,g,h0,a6⟩:=h.h0;refine⟨cs,e,g,blk hg (λe=>?_) h0,a6⟩;cases e;rw[hO] at h0;cases h0;obtain⟨k,m,e⟩:=a6 0 _ rfl;cases e
theorem xF.tp{w:qg7}{O Y L:Nat}{yb:Option qho}{ps:List Par}{yc:Nat}{lim:Int}{pb:Option qho}{l:List Int}{pc:Nat}(h:xF w O Y L yb ps yc lim pb l pc)(T:Nat->qih->Nat):xF (w.tp T) O Y L yb ps yc lim pb l pc :=
 ⟨h.out,h.ya,h.pa,h.ne,h.pars,h.yi,h.ints,h.pi,h.h0⟩
theorem Tp.x85:Tp.prog.funcs[85]?=some { qkj with body:=some (.exit 0) }:=by kernel_rfl
section
variable[J:JunkSet]{f:qhs}{Post:qgb->qg7->Prop}{W:qg7}
theorem EC.of_body1(D:Two Tp.prog qgr){fk:qhs}{fn:Func}{c0:qiw}{args:Array qgb}{wq:qg7}{R:qgb->qg7->Prop}{t:Nat}(hf:Tp.prog.funcs[fk]?=some fn)(hp:Tryz.prog.funcs[fk]?=some fn)(a7:fn.body=some c0)(hr:fn.results=#[.tmp t])(h:∀cs,Bot f cs->(∀tm todo u,R (tm.getD t qgd) u->EL Tp.prog qgr f Post W (G { (qgA fk).at ⟨tm,[]⟩ todo with mode:=.returning } cs) u) ->EL Tp.prog qgr f Post W (G ((qgA fk).at ⟨args++qhk (fn.ntmps - args.size) qgd,[]⟩ [.code c0]) cs) wq):EC Tp.prog qgr f Post W fk args wq R :=
 EC.of_body D hf hp a7 λcs hb a6=>h cs hb λtm todo u hR=>a6 ⟨tm,[]⟩ todo u _ rfl (λT=>results_tmp hr _ _ _) hR
structure qbu(ps:List Par)(l wl:List Int):Prop where
 n5:ps.length<=5
 hp:∀p∈ps,0<=p.mn/\p.mn<=p.mx/\p.mx<=1000
 hl:∀y∈l,0<=y/\y<ps.length
 ll:l.length<=1000
 hwl:∀y∈wl,0<=y/\y<ps.length
 wl1:wl.length<=1000
 hN:∀j,j<=wl.length->(jq ps (wl.take j)).length<=900000
theorem el83(D:Two Tp.prog qgr)(hok:JunkSet.okf 137)(e4:∀i,¬ JunkSet.jk i)(hin:Tp.prog.inits.idxOf? f=none)(hfs:∃g,Tp.prog.funcs[f]?=some g/\Tryz.prog.funcs[f]?=some g){wq:qg7}{O Y L:Nat}{yb:Option qho}{ps:List Par}{yc:Nat}{lim:Int}{pb:Option qho}{l:List Int}{pc:Nat}(h:xF wq O Y L yb ps yc lim pb l pc){vb:Option qho}{vc:Nat}{wl:List Int}(hw:qe 0 wq.heap.size wq (.slice vb wl.length vc) wl)(d7:qy wq (.slice vb wl.length vc))(hne:wl≠[]\/(qh7 vb wl.length vc)=.slice none 0 0)(hd:qbu ps l wl) :EC Tp.prog qgr f Post W 83 #[.slice vb wl.length vc,.pointer (some ⟨O,0,none⟩),.pointer (some ⟨Y,0,none⟩),.pointer (some ⟨L,0,none⟩)] wq λv u=>∃d:Bool,v=.bool (!d)/\(d=true↔Qf ps l wl)/\(wq.tp u.tape).grownBy u (some O)/\∃b n c,u.heap[O]?=some (.cells #[.slice b n c] 29 (0,0))/\qe 0 u.heap.size u (.slice b n c) wl:=by
 refine EC.of_body1 D (fn:=Tryz.f83) (c0:=Tryz.f83.body.getD .skip) (t:=5) Tp.x83 Tryz.func83 (by kernel_rfl) rfl λcs hb a7=>?_;have HR:=qg4 a7;clear a7;simp only[Tryz.f83,qgh];have hs:Tp.prog.funcs[(qgA 83).fn]?=Tryz.prog.funcs[(qgA 83).fn]?:=z6 83 (by decide);walk_nrm;refine EL.sp D hb hs λT=>?_;go_wp2;refine EL.tape (wq:=wq) ?_ T;refine EL.sp D hb hs λT=>?_;obtain⟨ob,on,oc,hO⟩:=h.out;have HO:=qg4 hO;have b8:(wq.tp T).frozen? ⟨O,0,none⟩=false:=qn hO;have b9:(wq.tp T).cell? ⟨O,0,none⟩=some (.slice ob on oc):=q8 hO rfl;have hlt:O<(wq.tp T).heap.size:=(qg8.1 hO).1;clear hO;go_wp2;refine(Ja 0 wq.heap.size _ wl (wq.tp T) hw (qg9 _) hne hd.wl1).mono ?_;rintro e w2 ⟨v',rfl,a6,c9⟩;have e6:=a6.cell b9 (by simp);have b7:=(a6.frozen_far _ hlt (by simp)).trans b8;have a8:=(blk a6 (by simp) HO.out);have d6:=qg4 a6;have b0:=qg4 c9;have d9:=a6.size;have d5:=qg4 a8;clear a6 c9 a8;obtain⟨cb,cc,rfl,-,-⟩:=b0.out.cell;go_wp2;have hg:(wq.tp T).grownBy (w2.setCell ⟨O,0,none⟩ (.slice cb wl.length cc)) (some O):=(d6.out.but (some O)).trans (qf w2 O 0 _);have a9:(w2.setCell ⟨O,0,none⟩ (.slice cb wl.length cc)).heap[O]?=some (.cells #[.slice cb wl.length cc] 29 (0,0)):=by rw[qh d5.out];rfl
 have c8:qe 0 (w2.setCell ⟨O,0,none⟩ (.slice cb wl.length cc)).heap.size (w2.setCell ⟨O,0,none⟩ (.slice cb wl.length cc)) (.slice cb wl.length cc) wl :=
  (b0.out.kept (qf w2 O 0 _) (λR e=>by cases e;exact .inl hlt)).mono (qh1 _) (by simp)
 generalize w2.setCell ⟨O,0,none⟩ (.slice cb wl.length cc)=u at hg a9 c8 ⊢;clear e6 b7 b8 b9 d9 d6 b0 d5;have h3:xF u O Y L yb ps yc lim pb l pc:=xF.kept (h.tp T) hg ⟨_,_,_,a9⟩;have d8:qe 0 u.heap.size u (.slice vb wl.length vc) wl:=(qe.kept_ne (w:=wq.tp T) hw hg HO.out).mono (qg9 _) hg.size;have b6:qy u (.slice vb wl.length vc):=qy.kept_ne (w:=wq.tp T) d7 hg HO.out;show EL _ _ _ _ _ _ _;refine EL.seq D hb hs ?_;refine EL.region D hb hs ?_;simp only[qgF,qgq,qgx,qgG,qgz,qgB,qhg];refine EL.list D hb hs [0,1,2] [_,_,_] (rest:=[3,4,5]) rfl λT3=>?_;have c1:(u.tp T3).cell? ⟨Y,0,none⟩=some (.slice yb ps.length yc):=q8 h3.ya rfl;have c2:(u.tp T3).cell? ⟨Y,1,none⟩=some (.int .i64 lim):=q8 h3.ya rfl;have c3:(u.tp T3).cell? ⟨L,0,none⟩=some (.slice pb l.length pc):=q8 h3.pa rfl;go_wp2;refine EL.tape (wq:=u) ?_ T3;refine EL.doubt D hok e4 hin hfs hb hs (ybq:=yb) (pbq:=pb) (vbq:=vb) (ps:=ps) (l:=l) (wl:=wl) (yc:=yc) (pc:=pc) (vc:=vc) (lim:=lim) rfl rfl (λT4=>by rw[qlx (f:=85) rfl Tp.x85 (by kernel_rfl) rfl];walk_nrm) h3.pars h3.yi h3.ints h3.pi d8 b6 h3.h0 hd.n5 hd.hp hd.hl hd.ll hd.hwl hd.hN λu2 d e5 hg2=>?_;rw[qiA];walk_nrm;refine EL.list D hb hs [4,5] [_,_] (rest:=[]) rfl λT5=>?_;go_wp2;refine EL.tape (wq:=u2) ?_ T5;refine EL.region_end D hb hs ?_;refine EL.retS D hb hs ?_;refine HR.out _ _ u2 ⟨d,rfl,e5,?_,cb,wl.length,cc,?_,?_⟩
 ·exact⟨hg2.os.trans hg.os,rfl,hg2.output.trans hg.output,qgi hg.size hg2.size,λk hk hne=>(hg2.block k (qgp hk hg.size) (by simp)).trans (hg.block k hk hne)⟩
 ·exact blk hg2 (by simp) a9
 ·exact(qe.kept (w:=u.tp u2.tape) c8 hg2 (by simp)).mono (qg9 _) hg2.size
end
end
section
open Go Go.RowKit Go.Co Go.Sim Go.Conc Go.ConcN
theorem qdk(x:Array qgb)(h:x.size=41):∃y0 y1 y2 y3 y4 y5 y6 y7 y8 y9 y10 y11 y12 y13 y14 y15 y16 y17 y18 y19 y20 y21 y22 y23 y24 y25 y26 y27 y28 y29 y30 y31 y32 y33 y34 y35 y36 y37 y38 y39 y40,x=#[y0,y1,y2,y3,y4,y5,y6,y7,y8,y9,y10,y11,y12,y13,y14,y15,y16,y17,y18,y19,y20,y21,y22,y23,y24,y25,y26,y27,y28,y29,y30,y31,y32,y33,y34,y35,y36,y37,y38,y39,y40]:=by
 have e:=xm x;rw[h] at e;exact⟨_,_,_,_,_,_,_,_,_,_,_,_,_,_,_,_,_,_,_,_,_,_,_,_,_,_,_,_,_,_,_,_,_,_,_,_,_,_,_,_,_,e.trans rfl⟩
structure JM(w:qg7)(E Lv Gp O Y Lp:Nat)(lb:Option qho)(lc:Nat)(ws:List Int):Prop where
 en:w.heap[E]?=some (.cells #[.func (.func 83) #[] #[.pointer (some ⟨O,0,none⟩),.pointer (some ⟨Y,0,none⟩),.pointer (some ⟨Lp,0,none⟩)]] 51 (0,0))
 ls:w.heap[Lv]?=some (.cells #[.slice lb ws.length lc] 29 (0,0))
 wsI:qe 0 w.heap.size w (.slice lb ws.length lc) ws
 gr:w.heap[Gp]?=some (.cells #[.func (.func 136) #[] #[.pointer (some ⟨E,0,none⟩),.pointer (some ⟨Lv,0,none⟩),.pointer (some ⟨Gp,0,none⟩)]] 151 (0,0))
 neL:O≠Lv
def zU(p:List Int->Bool):List (List Int)->List Int->Bool × List Int
 | [],o=>(false,o)
 | c::cs,_=>if p c then(true,c) else zU p cs c
theorem KP(p:List Int->Bool):∀(a b:List (List Int)) (o:List Int),zU p (a++b) o=if(zU p a o).1 then zU p a o else zU p b (zU p a o).2:=by
 intro a;induction a with
 | nil=>intro b o;simp[zU]
 | cons c a ih=>
  intro b o;simp only[qgD,zU];by_cases h:p c=true
  ·simp[h]
  ·simp only[if_neg h];exact ih b c
theorem q3n(w:qg7)(a6 old:Nat)(e:qgt):a6<=qkr w a6 old e:=by
 unfold qkr;simp only[Question.cut];omega
theorem q8r(z:Array qgb)(hz:zm z.toList)(hp:0<z.size)(n:Nat):zm (qiz z n).toList:=q2a hz hp n
theorem q38{w:qg7}{l:List Int}{zs:Array qgb}(hz:zm zs.toList)(hl:l.length<=1000000)(cap:Nat) :qe w.heap.size (w.drew.alloc (.cells ((l.map (qgy .i64)).toArray++zs) 3)).heap.size (w.drew.alloc (.cells ((l.map (qgy .i64)).toArray++zs) 3)) (.slice (some ⟨w.heap.size,0,none⟩) l.length cap) l /\qy (w.drew.alloc (.cells ((l.map (qgy .i64)).toArray++zs) 3)) (.slice (some ⟨w.heap.size,0,none⟩) l.length cap):=by
 have hh:(w.drew.alloc (.cells ((l.map (qgy .i64)).toArray++zs) 3)).heap[w.heap.size]?=some (.cells ((l.map (qgy .i64)).toArray++zs) 3 (0,0)):=qgg w.drew _;refine⟨⟨_,cap,rfl,by omega,λ_=>⟨w.heap.size,0,_,_,rfl,qg9 _,?_,hh,λi hi=>?_⟩⟩,λad n c e=>?_⟩
 ·exact(qg8.1 hh).1
 ·rw[qgz,qm1 (by simpa using hi)];simp[qge hi]
 ·cases e;refine⟨_,_,_,hh,λi v hv=>?_⟩;have hm:=qi5 hv;rcases qjA.1 hm with h | h
  ·simp only[qjC,qjr] at h;obtain⟨x,_,rfl⟩:=h;exact⟨_,_,rfl⟩
  ·exact hz v (by simpa using h)
theorem q9C{w:qg7}{nb:Option qho}{nc B:Nat}{now:List Int}{x:Int}(ty:qgt)(hN:qe 0 w.heap.size w (.slice nb now.length nc) now)(hx:w.cell? ⟨B,0,none⟩=some (.int .i64 x))(hl:now.length<=1000) :∃cap w',(ql0 #[29,29] ty #[.slice nb now.length now.length,.slice (some ⟨B,0,none⟩) 1 1]).run Tp.prog w=.ok (.slice (some ⟨w.heap.size,0,none⟩) (now.length+1) cap) w'/\now.length+1<=cap/\w.grownBy w' none /\qe w.heap.size w'.heap.size w' (.slice (some ⟨w.heap.size,0,none⟩) (now.length+1) cap) (now++[x])/\qy w' (.slice (some ⟨w.heap.size,0,none⟩) (now.length+1) cap):=by
 obtain⟨i0,b8,b7,a8,b6⟩:=qiv Tp.info3p;have a7:∀j v,([qgy .i64 x]:List qgb)[j]?=some v->w.cell? ((⟨B,0,none⟩:qho).add j)=some v:=λj v hj=>by
  have:j=0:=by have:=(qgo.1 hj).1;simp at this;omega
  subst this;simp at hj;subst hj;simpa[Addr.add] using hx
 have hzi:zm (qgy .i64 0).cells.toList:=λv hv=>by simp[Value.cells] at hv;exact⟨_,_,hv⟩
 have b0:(now++[x]).length=now.length+1:=by simp
 cases nb with
 | none=>
  have h0:now=[]:=by
   refine qhG λhne=>?_;obtain⟨base,cap,e,_,hr⟩:=hN;cases e;obtain⟨B,o,cs,fr,e1,_⟩:=hr hne;cases e1
  subst h0;have hr:=run_append_nil (P:=Tp.prog) w 29 ty 3 i0 _ Tp.und29' b8 b7 ⟨B,0,none⟩ 1 1 [qgy .i64 x] (by rw[a8];rfl) a7 (by omega) (by omega) (by rw[b6];omega);have:=q38 (w:=w) (l:=[x]) (zs:=qiz (qgy .i64 0).cells (qkr w 1 0 3 - 1)) (q8r _ hzi (by decide) _) (by simp) (qkr w 1 0 3);exact⟨_,_,hr,q3n _ _ _ _,(qc w none).trans (qg6 _ _ none),this.1,this.2⟩
 | some b=>
  have a9:∀j v,(now.map (qgy .i64))[j]?=some v->w.cell? (b.add j)=some v:=λj v hj=>by
   have a6:j<now.length:=by simpa using(qgo.1 hj).1
   obtain⟨base,cap,e,_,hc⟩:=hN.cell;cases e;obtain⟨B',o,e1,_,_,_,h4⟩:=hc (by intro e;rw[e] at a6;simp at a6);cases e1;have h5:=h4 j a6;rw[qj1,qge a6] at hj;rw[qge a6] at h5;cases hj;exact yP h5
  have hr:=run_append_grow (P:=Tp.prog) w 29 ty 3 i0 _ Tp.und29' b8 b7 b now.length now.length (now.map (qgy .i64)) (by rw[a8];simp) a9 ⟨B,0,none⟩ 1 1 [qgy .i64 x] (by rw[a8];rfl) a7 (by omega) (by omega) (growslice_fits (by omega) (by rw[b6];omega));have:=q38 (w:=w) (l:=now++[x]) (zs:=qiz (qgy .i64 0).cells (qkr w (now.length+1) now.length 3 - (now.length+1))) (q8r _ hzi (by decide) _) (by simp;omega) (qkr w (now.length+1) now.length 3);have e:(now.map (qgy .i64)).toArray++[qgy .i64 x].toArray=((now++[x]).map (qgy .i64)).toArray:=by simp
  rw[e] at hr;rw[b0] at this;exact⟨_,_,hr,q3n _ _ _ _,(qc w none).trans (qg6 _ _ none),this.1,this.2⟩
section
variable[J:JunkSet]{f:qhs}{Post:qgb->qg7->Prop}{W:qg7}
noncomputable def sub:List Nat->qiw->qiw
 | 0::l,.seq a _=>sub l a
 | 1::l,.seq _ b=>sub l b
 | 0::l,.cond _ a _=>sub l a
 | 1::l,.cond _ _ b=>sub l b
 | 0::l,.block _ c=>sub l c
 | 0::l,.loop c=>sub l c
 | _,c=>c
theorem vu{ops:Array qi6}{o:qi6}{a:Act}{w:qg7}{K:Act->qg7->Prop}{Q:Exit->Act->qg7->Prop}{E:Prop}(a6:o.guard=none)(s x:qhh)(hop:o.op=.call { callee:=.builtin .append,args:=#[s,x],argTypes:=#[29,29] }){nb:Option qho}{nc B:Nat}{now:List Int}{y:Int}(hs:a.eval s=.slice nb now.length now.length)(hx:a.eval x=.slice (some ⟨B,0,none⟩) 1 1)(hN:qe 0 w.heap.size w (.slice nb now.length nc) now)(hy:w.cell? ⟨B,0,none⟩=some (.int .i64 y))(hl:now.length<=1000)(h:∀cap w',now.length+1<=cap->w.grownBy w' none->qe w.heap.size w'.heap.size w' (.slice (some ⟨w.heap.size,0,none⟩) (now.length+1) cap) (now++[y])->qy w' (.slice (some ⟨w.heap.size,0,none⟩) (now.length+1) cap)->K (a.put o.dst (.slice (some ⟨w.heap.size,0,none⟩) (now.length+1) cap)) w') :if qhi o (qj7 ops a.tmps)=true then Oper.wp Tp.prog o a w K Q else E:=by
 rw[if_pos (by simp[qhi,a6])];obtain⟨cap,w',hr,h1,h2,h3,h4⟩:=q9C o.type hN hy hl;unfold Oper.wp qjt;simp only[hop,resolve,invoke,builtin,qi7,qmA,qi8,List.map_toArray,qkm,List.map_nil,hs,hx,hr];exact h cap w' h1 h2 h3 h4
noncomputable def q50:qiw->Array qi6
 | .region _ ops _=>ops
 | _=>#[]
theorem reg6(D:Two Tp.prog qgr){cs:List qgm}{k:List qkl}(hb:Bot f cs){u:qg7}{E Lv Gp O Y Lp LB lo:Nat}{nb:Option qho}{lc nc i m:Nat}{ws now:List Int}{x:Int}{y1 y3 y6 y7 y8 y9 y11 y12 y13 y14 y15 y16 y17 y18 y19 y20 y21 y22 y23 y24 y25 y26 y27 y28 y29 y30 y31 y32 y33 y34 y35 y36 y37 y38 y39 y40:qgb}(hG:JM u E Lv Gp O Y Lp (some ⟨LB,lo,none⟩) lc ws)(hN:qe 0 u.heap.size u (.slice nb now.length nc) now)(hnc:now.length<=nc)(hi:i<ws.length)(hx:u.cell? ⟨LB,lo+i,none⟩=some (.int .i64 x))(hm:m<=1000)(hl:now.length<=1000)(hw:ws.length<=1000)(hend:∀g cap u',now.length+1<=cap->(u.tp u'.tape).grownBy u' none->qe 0 u'.heap.size u' (.slice (some ⟨g,0,none⟩) (now.length+1) cap) (now++[x])->qy u' (.slice (some ⟨g,0,none⟩) (now.length+1) cap) ->EL Tp.prog qgr f Post W (G ((qgA 136).at ⟨#[(.slice nb now.length nc),y1,(.int .i64 (m+1:Nat)),y3,(.pointer (some ⟨Lv,0,none⟩)),(.pointer (some ⟨Gp,0,none⟩)),y6,y7,y8,y9,(.int .i64 i),y11,y12,y13,y14,y15,y16,y17,y18,y19,y20,y21,y22,(.func (.func 136) #[] #[.pointer (some ⟨E,0,none⟩),.pointer (some ⟨Lv,0,none⟩),.pointer (some ⟨Gp,0,none⟩)]),(.slice nb now.length nc),(.slice nb now.length nc),(.int .i64 now.length),(.slice nb now.length nc),(.int .i64 now.length),(.slice nb now.length now.length),(.slice (some ⟨LB,lo,none⟩) ws.length lc),(.int .i64 i),(.pointer (some ⟨LB,lo+i,none⟩)),(.int .i64 x),(.slice (some ⟨u.heap.size,0,none⟩) 1 1),(.slice (some ⟨g,0,none⟩) (now.length+1) cap),(.int .i64 i),(.int .i64 (i+1:Nat)),(.int .i64 (m+1:Nat)),(.int .i64 m),y40],[]⟩ (.inRegion (q50 (sub [1,1,0,1,0,0,1,0,0,0] (Tryz.f136.body.getD .skip))) [17]::k)) cs) u') :EL Tp.prog qgr f Post W (G ((qgA 136).at ⟨#[(.slice nb now.length nc),y1,(.int .i64 (m+1:Nat)),y3,(.pointer (some ⟨Lv,0,none⟩)),(.pointer (some ⟨Gp,0,none⟩)),y6,y7,y8,y9,(.int .i64 i),y11,y12,y13,y14,y15,y16,y17,y18,y19,y20,y21,y22,y23,y24,y25,y26,y27,y28,y29,y30,y31,y32,y33,y34,y35,y36,y37,y38,y39,y40],[]⟩ (.code (sub [1,1,0,1,0,0,1,0,0,0] (Tryz.f136.body.getD .skip))::k)) cs) u:=by
 have hs:Tp.prog.funcs[(qgA 136).fn]?=Tryz.prog.funcs[(qgA 136).fn]?:=z6 136 (by decide);simp only[qn0,qgh,sub,q50] at hend ⊢;have HE:=qg4 hend;clear hend;refine EL.region_last D hb hs (n:=17) (by kernel_rfl) (by kernel_rfl) rfl (by kernel_rfl) λT=>?_;generalize he:qQ _ 17=ops';simp only[qQ,jS,List.modify_toArray,List.modify_succ_cons,List.modify_zero_cons] at he;subst he;have c0:(u.tp T).cell? ⟨Gp,0,none⟩=some (.func (.func 136) #[] #[.pointer (some ⟨E,0,none⟩),.pointer (some ⟨Lv,0,none⟩),.pointer (some ⟨Gp,0,none⟩)]):=q8 hG.gr rfl;have c1:(u.tp T).cell? ⟨Lv,0,none⟩=some (.slice (some ⟨LB,lo,none⟩) ws.length lc):=q8 hG.ls rfl;have c2:(u.tp T).cell? ⟨LB,lo+i,none⟩=some (.int .i64 x):=hx;have HN:=qg4 (show qe 0 (u.tp T).heap.size (u.tp T) (.slice nb now.length nc) now from hN);clear hN hx;have a7:IntKind.i64.wrap ((i:Int)+1)=((i+1:Nat):Int):=by simp[qm9];omega
 have a6:IntKind.i64.wrap (m:Int)=(m:Int):=by simp only[qm9];omega
 change wpAny _ _ _ _ _ _ _ (World.drew (u.tp T));generalize hv:u.tp T=v at c0 c1 c2 HN ⊢;have HV:=qg4 hv;clear hv;refine qjy (i:=1) (v:=?_) rfl (by kernel_rfl) (by kernel_rfl) (by kernel_rfl) (λ_ _ _ h=>h) (Or.inl ⟨by rfl,?_⟩) ?_;rotate_left
 ·(intro w;go_simp;try with_reducible rfl)
 refine qjy (i:=2) (v:=?_) rfl (by kernel_rfl) (by kernel_rfl) (by kernel_rfl) (λ_ _ _ h=>h) (Or.inl ⟨by rfl,?_⟩) ?_;rotate_left
 ·(intro w;go_simp;try with_reducible rfl)
 refine qjy (i:=3) (v:=?_) rfl (by kernel_rfl) (by kernel_rfl) (by kernel_rfl) (λ_ _ _ h=>h) (Or.inl ⟨by rfl,?_⟩) ?_;rotate_left
 ·(intro w;go_simp;try with_reducible rfl)
 refine qjy (i:=4) (v:=?_) rfl (by kernel_rfl) (by kernel_rfl) (by kernel_rfl) (λ_ _ _ h=>h) (Or.inl ⟨by rfl,?_⟩) ?_;rotate_left
 ·(intro w;go_simp;try with_reducible rfl)
 refine qjy (i:=5) (v:=?_) rfl (by kernel_rfl) (by kernel_rfl) (by kernel_rfl) (λ_ _ _ h=>h) (Or.inl ⟨by rfl,?_⟩) ?_;rotate_left
 ·(intro w;go_simp;try with_reducible rfl)
 refine qjy (i:=6) (v:=?_) rfl (by kernel_rfl) (by kernel_rfl) (by kernel_rfl) (λ_ _ _ h=>h) (Or.inl ⟨by rfl,?_⟩) ?_;rotate_left
 ·(intro w;go_simp;try with_reducible rfl)
 refine qjy (i:=8) (v:=?_) rfl (by kernel_rfl) (by kernel_rfl) (by kernel_rfl) (λ_ _ _ h=>h) (Or.inl ⟨by rfl,?_⟩) ?_;rotate_left
 ·(intro w;go_simp;try with_reducible rfl)
 refine qjy (i:=13) (v:=?_) rfl (by kernel_rfl) (by kernel_rfl) (by kernel_rfl) (λ_ _ _ h=>h) (Or.inl ⟨by rfl,?_⟩) ?_;rotate_left
 ·(intro w;go_simp;try with_reducible rfl)
 refine qjy (i:=14) (v:=?_) rfl (by kernel_rfl) (by kernel_rfl) (by kernel_rfl) (λ_ _ _ h=>h) (Or.inl ⟨by rfl,?_⟩) ?_;rotate_left
 ·(intro w;go_simp;try with_reducible rfl)
 refine qjy (i:=15) (v:=?_) rfl (by kernel_rfl) (by kernel_rfl) (by kernel_rfl) (λ_ _ _ h=>h) (Or.inl ⟨by rfl,?_⟩) ?_;rotate_left
 ·(intro w;go_simp;try with_reducible rfl)
 refine qjy (i:=16) (v:=?_) rfl (by kernel_rfl) (by kernel_rfl) (by kernel_rfl) (λ_ _ _ h=>h) (Or.inl ⟨by rfl,?_⟩) ?_;rotate_left
 ·(intro w;go_simp;try with_reducible rfl)
 refine qk0 (rs:=[0,7]) (by kernel_rfl) (by simp) ?_;refine qir rfl (λK hK=>?_) ?_
 ·skip;go_simp;refine hK _ _ ?_;clear hK K;refine qk0 (rs:=[7]) (by kernel_rfl) (by simp) ?_;refine qir rfl (λK hK=>?_) ?_
  ·skip;go_simp;refine hK _ _ ?_;clear hK K;refine qjy (i:=9) (v:=?_) rfl (by kernel_rfl) (by kernel_rfl) (by kernel_rfl) (λ_ _ _ h=>h) (Or.inl ⟨by rfl,?_⟩) ?_;rotate_left
   ·(intro w;go_simp;try with_reducible rfl)
   refine qk0 (rs:=[10]) (by kernel_rfl) (by simp) ?_;refine qir rfl (λK hK=>?_) ?_
   ·skip;go_simp;refine hK _ _ ?_;clear hK K;refine qk0 (rs:=[11]) (by kernel_rfl) (by simp) ?_;refine qir rfl (λK hK=>?_) ?_
    ·skip;go_simp;refine hK _ _ ?_;clear hK K;have b0:=(qg6 v (.cells #[.int .i64 x] 3) none).cell c0 (by simp);refine qk0 (rs:=[12]) (by kernel_rfl) (by simp) ?_;refine qir rfl (λK hK=>?_) ?_
     ·skip;refine vu rfl (.tmp 29) (.tmp 34) rfl (nc:=nc) rfl rfl ((HN.out.kept ((qc v none).trans (qg6 v.drew _ none)) (by simp)).mono (qg9 _) ((qc v none).trans (qg6 v.drew _ none)).size) (jh _ _ _ _) hl (λcap w' q1 q2 q3 q4=>?_);have Q2:=qg4 q2;have Q3:=qg4 q3;have Q4:=qg4 q4;have d0:=q2.cell (((qc v none).trans (qg6 v.drew (.cells #[.int .i64 x] 3) none)).cell c0 (by simp)) (by simp);clear q2 q3 q4;refine hK _ _ ?_;clear hK K;refine qjy (i:=17) (v:=?_) rfl (by kernel_rfl) (by kernel_rfl) (by kernel_rfl) (λ_ _ _ h=>h) (Or.inl ⟨by rfl,?_⟩) ?_;rotate_left
      ·(intro w;go_simp;try with_reducible rfl)
      refine qoe (by kernel_rfl) ?_ _;obtain rfl:=HV.out;refine HE.out _ cap w' q1 ?_ (Q3.out.mono (qh1 _) (qg9 _)) Q4.out;have g:=((qc (u.tp T) none).trans (qg6 (u.tp T).drew (.cells #[.int .i64 x] 3) none)).trans Q2.out;exact⟨g.os,rfl,g.output,g.size,g.block⟩
     exact qjs
    exact qjs
   exact qjs
  exact qjs
 refine qir rfl (λK hK=>?_) ?_
 ·skip;go_simp;refine hK _ _ ?_;clear hK K;refine qjy (i:=9) (v:=?_) rfl (by kernel_rfl) (by kernel_rfl) (by kernel_rfl) (λ_ _ _ h=>h) (Or.inl ⟨by rfl,?_⟩) ?_;rotate_left
  ·(intro w;go_simp;try with_reducible rfl)
  refine qk0 (rs:=[0,10]) (by kernel_rfl) (by simp) ?_;refine qir rfl (λK hK=>?_) ?_
  ·skip;go_simp;refine hK _ _ ?_;clear hK K;refine qk0 (rs:=[10]) (by kernel_rfl) (by simp) ?_;refine qir rfl (λK hK=>?_) ?_
   ·skip;go_simp;refine hK _ _ ?_;clear hK K;refine qk0 (rs:=[11]) (by kernel_rfl) (by simp) ?_;refine qir rfl (λK hK=>?_) ?_
    ·skip;go_simp;refine hK _ _ ?_;clear hK K;have b0:=(qg6 v (.cells #[.int .i64 x] 3) none).cell c0 (by simp);refine qk0 (rs:=[12]) (by kernel_rfl) (by simp) ?_;refine qir rfl (λK hK=>?_) ?_
     ·skip;refine vu rfl (.tmp 29) (.tmp 34) rfl (nc:=nc) rfl rfl ((HN.out.kept ((qc v none).trans (qg6 v.drew _ none)) (by simp)).mono (qg9 _) ((qc v none).trans (qg6 v.drew _ none)).size) (jh _ _ _ _) hl (λcap w' q1 q2 q3 q4=>?_);have Q2:=qg4 q2;have Q3:=qg4 q3;have Q4:=qg4 q4;have d0:=q2.cell (((qc v none).trans (qg6 v.drew (.cells #[.int .i64 x] 3) none)).cell c0 (by simp)) (by simp);clear q2 q3 q4;refine hK _ _ ?_;clear hK K;refine qjy (i:=17) (v:=?_) rfl (by kernel_rfl) (by kernel_rfl) (by kernel_rfl) (λ_ _ _ h=>h) (Or.inl ⟨by rfl,?_⟩) ?_;rotate_left
      ·(intro w;go_simp;try with_reducible rfl)
      refine qoe (by kernel_rfl) ?_ _;obtain rfl:=HV.out;refine HE.out _ cap w' q1 ?_ (Q3.out.mono (qh1 _) (qg9 _)) Q4.out;have g:=((qc (u.tp T) none).trans (qg6 (u.tp T).drew (.cells #[.int .i64 x] 3) none)).trans Q2.out;exact⟨g.os,rfl,g.output,g.size,g.block⟩
     exact qjs
    exact qjs
   exact qjs
  refine qir rfl (λK hK=>?_) ?_
  ·skip;go_simp;refine hK _ _ ?_;clear hK K;refine qk0 (rs:=[0,11]) (by kernel_rfl) (by simp) ?_;refine qir rfl (λK hK=>?_) ?_
   ·skip;go_simp;refine hK _ _ ?_;clear hK K;refine qk0 (rs:=[11]) (by kernel_rfl) (by simp) ?_;refine qir rfl (λK hK=>?_) ?_
    ·skip;go_simp;refine hK _ _ ?_;clear hK K;have b0:=(qg6 v (.cells #[.int .i64 x] 3) none).cell c0 (by simp);refine qk0 (rs:=[12]) (by kernel_rfl) (by simp) ?_;refine qir rfl (λK hK=>?_) ?_
     ·skip;refine vu rfl (.tmp 29) (.tmp 34) rfl (nc:=nc) rfl rfl ((HN.out.kept ((qc v none).trans (qg6 v.drew _ none)) (by simp)).mono (qg9 _) ((qc v none).trans (qg6 v.drew _ none)).size) (jh _ _ _ _) hl (λcap w' q1 q2 q3 q4=>?_);have Q2:=qg4 q2;have Q3:=qg4 q3;have Q4:=qg4 q4;have d0:=q2.cell (((qc v none).trans (qg6 v.drew (.cells #[.int .i64 x] 3) none)).cell c0 (by simp)) (by simp);clear q2 q3 q4;refine hK _ _ ?_;clear hK K;refine qjy (i:=17) (v:=?_) rfl (by kernel_rfl) (by kernel_rfl) (by kernel_rfl) (λ_ _ _ h=>h) (Or.inl ⟨by rfl,?_⟩) ?_;rotate_left
      ·(intro w;go_simp;try with_reducible rfl)
      refine qoe (by kernel_rfl) ?_ _;obtain rfl:=HV.out;refine HE.out _ cap w' q1 ?_ (Q3.out.mono (qh1 _) (qg9 _)) Q4.out;have g:=((qc (u.tp T) none).trans (qg6 (u.tp T).drew (.cells #[.int .i64 x] 3) none)).trans Q2.out;exact⟨g.os,rfl,g.output,g.size,g.block⟩
     exact qjs
    exact qjs
   refine qir rfl (λK hK=>?_) ?_
   ·skip;go_simp;refine hK _ _ ?_;clear hK K;have b0:=(qg6 v (.cells #[.int .i64 x] 3) none).cell c0 (by simp);refine qk0 (rs:=[0,12]) (by kernel_rfl) (by simp) ?_;refine qir rfl (λK hK=>?_) ?_
    ·skip;go_simp;refine hK _ _ ?_;clear hK K;refine qk0 (rs:=[12]) (by kernel_rfl) (by simp) ?_;refine qir rfl (λK hK=>?_) ?_
     ·skip;refine vu rfl (.tmp 29) (.tmp 34) rfl (nc:=nc) rfl rfl ((HN.out.kept ((qc v none).trans (qg6 v.drew _ none)) (by simp)).mono (qg9 _) ((qc v none).trans (qg6 v.drew _ none)).size) (jh _ _ _ _) hl (λcap w' q1 q2 q3 q4=>?_);have Q2:=qg4 q2;have Q3:=qg4 q3;have Q4:=qg4 q4;have d0:=q2.cell (((qc v none).trans (qg6 v.drew (.cells #[.int .i64 x] 3) none)).cell c0 (by simp)) (by simp);clear q2 q3 q4;refine hK _ _ ?_;clear hK K;refine qjy (i:=17) (v:=?_) rfl (by kernel_rfl) (by kernel_rfl) (by kernel_rfl) (λ_ _ _ h=>h) (Or.inl ⟨by rfl,?_⟩) ?_;rotate_left
      ·(intro w;go_simp;try with_reducible rfl)
      refine qoe (by kernel_rfl) ?_ _;obtain rfl:=HV.out;refine HE.out _ cap w' q1 ?_ (Q3.out.mono (qh1 _) (qg9 _)) Q4.out;have g:=((qc (u.tp T) none).trans (qg6 (u.tp T).drew (.cells #[.int .i64 x] 3) none)).trans Q2.out;exact⟨g.os,rfl,g.output,g.size,g.block⟩
     exact qjs
    refine qir rfl (λK hK=>?_) ?_
    ·skip;refine vu rfl (.tmp 29) (.tmp 34) rfl (nc:=nc) rfl rfl ((HN.out.kept ((qc v none).trans (qg6 v.drew _ none)) (by simp)).mono (qg9 _) ((qc v none).trans (qg6 v.drew _ none)).size) (jh _ _ _ _) hl (λcap w' q1 q2 q3 q4=>?_);have Q2:=qg4 q2;have Q3:=qg4 q3;have Q4:=qg4 q4;have d0:=q2.cell (((qc v none).trans (qg6 v.drew (.cells #[.int .i64 x] 3) none)).cell c0 (by simp)) (by simp);clear q2 q3 q4;refine hK _ _ ?_;clear hK K;refine qk0 (rs:=[0]) (by kernel_rfl) (by simp) ?_;refine qir rfl (λK hK=>?_) ?_
     ·skip;go_simp;refine hK _ _ ?_;clear hK K;refine qjy (i:=17) (v:=?_) rfl (by kernel_rfl) (by kernel_rfl) (by kernel_rfl) (λ_ _ _ h=>h) (Or.inl ⟨by rfl,?_⟩) ?_;rotate_left
      ·(intro w;go_simp;try with_reducible rfl)
      refine qoe (by kernel_rfl) ?_ _;obtain rfl:=HV.out;have e:((u.tp T).alloc (.cells #[.int .i64 x] 3)).drew.heap.size=(u.tp T).heap.size+1:=by simp
      have q3:=Q3.out;have q4:=Q4.out;rw[e] at q3 q4;refine HE.out _ cap w' q1 ?_ (q3.mono (qh1 _) (qg9 _)) q4;have g:=((qc (u.tp T) none).trans (qg6 (u.tp T).drew (.cells #[.int .i64 x] 3) none)).trans Q2.out;exact⟨g.os,rfl,g.output,g.size,g.block⟩
     exact qjs
    exact qjs
   exact qjs
  exact qjs
 exact qjs
end
end
section
open Go Go.RowKit Go.Co Go.Sim Go.Conc Go.ConcN
theorem vV{P:qgl}{a:Act}{w:qg7}{o:qi6}{fv:qhh}{f:qhs}{fn:Func}{args:Array qhh}{a6:Array qgt}{jr:Array qgb}(hop:o.op=.call { callee:=.value fv,args,argTypes:=a6 })(hv:a.eval fv=.func (.func f) #[] jr)(hf:P.funcs[f]?=some fn)(hname:(fn.name == "runtime.NumGoroutine")=false)(hb:fn.body.isNone=false):(qjt a.eval o).run P w=.ok (.enter f (args.map a.eval++jr)) w:=by
 have h1:¬ fn.name = "runtime.NumGoroutine" := by simpa using hname
 have h2:¬ fn.body=none:=by cases hx:fn.body<;>simp_all
 unfold qjt;simp[hop,resolve,Deferred.ofValue,invoke,callFunc,hf,h1,h2,hv]
def Out(w:qg7)(O:Nat)(o:List Int):Prop:=∃b n c,w.heap[O]?=some (.cells #[.slice b n c] 29 (0,0))/\qe 0 w.heap.size w (.slice b n c) o
noncomputable def jI(ps:List Par)(l c:List Int):Bool:=@decide (¬ Qf ps l c) (Classical.propDecidable _)
theorem q2q{ps:List Par}{l c:List Int}{d:Bool}(h:d=true↔Qf ps l c):jI ps l c=!d:=by
 unfold jI;cases d
 ·simpa using λe=>Bool.false_ne_true (h.2 e)
 ·simpa using h.1 rfl
theorem JM.kept{w w':qg7}{E Lv Gp O Y Lp:Nat}{lb:Option qho}{lc:Nat}{ws:List Int}(h:JM w E Lv Gp O Y Lp lb lc ws)(hg:w.grownBy w' (some O)){b:Option qho}{n c:Nat}(hO:w.heap[O]?=some (.cells #[.slice b n c] 29 (0,0))):JM w' E Lv Gp O Y Lp lb lc ws :=
 ⟨blk hg (λe=>kD h.en hO (by decide) (by cases e;rfl)) h.en,blk hg (λe=>h.neL (by cases e;rfl)) h.ls,(h.wsI.kept_ne hg hO).mono (qg9 _) hg.size,blk hg (λe=>kD h.gr hO (by decide) (by cases e;rfl)) h.gr,h.neL⟩
theorem JM.tp{w:qg7}{E Lv Gp O Y Lp:Nat}{lb:Option qho}{lc:Nat}{ws:List Int}(h:JM w E Lv Gp O Y Lp lb lc ws)(T:Nat->qih->Nat):JM (w.tp T) E Lv Gp O Y Lp lb lc ws:=⟨h.en,h.ls,h.wsI,h.gr,h.neL⟩
theorem gb{w u v:qg7}{r:Option Nat}(h:(w.tp u.tape).grownBy u r)(k:(u.tp v.tape).grownBy v r):(w.tp v.tape).grownBy v r :=
 ⟨k.os.trans h.os,rfl,k.output.trans h.output,qgi h.size k.size,λi hi hne=>(k.block i (qgp hi h.size) hne).trans (h.block i hi hne)⟩
theorem qei{w u:qg7}(r:Option Nat)(h:(w.tp u.tape).grownBy u none):(w.tp u.tape).grownBy u r:=h.but r
theorem Out.kept{w u:qg7}{O:Nat}{o:List Int}(h:Out w O o)(hg:(w.tp u.tape).grownBy u none):Out u O o:=by
 obtain⟨b,n,c,h1,h2⟩:=h;exact⟨b,n,c,blk hg (by simp) h1,(qe.kept (w:=w.tp u.tape) h2 hg (by simp)).mono (qg9 _) hg.size⟩
theorem xF.gr{w u:qg7}{O Y L:Nat}{yb:Option qho}{ps:List Par}{yc:Nat}{lim:Int}{pb:Option qho}{l:List Int}{pc:Nat}{o:List Int}(h:xF w O Y L yb ps yc lim pb l pc)(hg:(w.tp u.tape).grownBy u (some O))(ho:Out u O o):xF u O Y L yb ps yc lim pb l pc:=by
 obtain⟨b,n,c,h1,-⟩:=ho;exact(h.tp _).kept hg ⟨b,n,c,h1⟩
theorem JM.gw{w u:qg7}{E Lv Gp O Y Lp:Nat}{lb:Option qho}{lc:Nat}{ws o:List Int}(h:JM w E Lv Gp O Y Lp lb lc ws)(hg:(w.tp u.tape).grownBy u (some O))(ho:Out w O o):JM u E Lv Gp O Y Lp lb lc ws:=by
 obtain⟨b,n,c,h1,-⟩:=ho;exact(h.tp _).kept hg (b:=b) (n:=n) (c:=c) h1
theorem qe.gr{w u:qg7}{O:Nat}{v:qgb}{l o:List Int}(h:qe 0 w.heap.size w v l)(hg:(w.tp u.tape).grownBy u (some O))(ho:Out w O o):qe 0 u.heap.size u v l:=by
 obtain⟨b,n,c,h1,-⟩:=ho;exact(qe.kept_ne (w:=w.tp u.tape) h hg h1).mono (qg9 _) hg.size
def GrR(ps:List Par)(l ws:List Int)(O m:Nat)(now:List Int)(from_:Nat)(o0:List Int)(wq:qg7)(v:qgb)(u:qg7):Prop :=
 ∃b o,zU (jI ps l) (zJ ws m now from_) o0=(b,o)/\v=.bool b/\(wq.tp u.tape).grownBy u (some O)/\Out u O o
theorem ZE(w:qg7)(r:Option Nat):(w.tp w.tape).grownBy w r:=⟨rfl,rfl,rfl,qg9 _,λ_ _ _=>rfl⟩
section
variable[J:JunkSet]{f:qhs}{Post:qgb->qg7->Prop}{W:qg7}
theorem qft(D:Two Tp.prog qgr)(hok:JunkSet.okf 137)(h8:∀i,¬ JunkSet.jk i)(hin:Tp.prog.inits.idxOf? f=none)(hfs:∃g,Tp.prog.funcs[f]?=some g/\Tryz.prog.funcs[f]?=some g){ps:List Par}{l ws:List Int}{yb pb lb:Option qho}{yc pc lc E Lv Gp O Y Lp:Nat}{lim:Int}(g6:ws.length<=1000)(e6:∀c:List Int,(∀y∈c,y∈ws)->c.length<=ws.length->qbu ps l c) :∀(m:Nat) (now:List Int) (from_:Nat) (nb:Option qho) (nc:Nat) (wq:qg7) (o0:List Int),m+now.length<=ws.length->(∀y∈now,y∈ws)->JM wq E Lv Gp O Y Lp lb lc ws->xF wq O Y Lp yb ps yc lim pb l pc->Out wq O o0 ->qe 0 wq.heap.size wq (.slice nb now.length nc) now->qy wq (.slice nb now.length nc)->now.length<=nc->(now≠[]\/qh7 nb now.length nc=.slice none 0 0)->from_<=1000 ->EC Tp.prog qgr f Post W 136 #[.slice nb now.length nc,.int .i64 from_,.int .i64 m,.pointer (some ⟨E,0,none⟩),.pointer (some ⟨Lv,0,none⟩),.pointer (some ⟨Gp,0,none⟩)] wq (GrR ps l ws O m now from_ o0 wq):=by
 have hs:Tp.prog.funcs[(qgA 136).fn]?=Tryz.prog.funcs[(qgA 136).fn]?:=z6 136 (by decide);intro m;induction m with
 | zero=>
  intro now from_ nb nc wq o0 e5 b8 hG hW hO hN e9 hnc hne h9;refine EC.of_body1 D (fn:=qn0) (c0:=Tryz.f136.body.getD .skip) (t:=9) Tp.x136 Tryz.func136 (by kernel_rfl) rfl λcs hb b6=>?_;have HR:=qg4 b6;clear b6;simp only[qn0,qgh];walk_nrm;refine EL.sp D hb hs λT=>?_;go_wp2;refine EL.tape (wq:=wq) ?_ T;refine EL.seq D hb hs ?_;refine EL.sp D hb hs λT=>?_;go_wp2;refine EL.tape (wq:=wq) ?_ T;refine EL.cond D hb hs true (by rfl) ?_;simp only[if_true];refine EL.seq D hb hs ?_;refine EL.region D hb hs ?_;simp only[qgF,qgq,qgx,qgG,qgz,qgB,qhg];have k0:=q8 (o:=0) hG.en rfl;refine EL.list D hb hs [0,1] [_,_] (rest:=[2,3]) rfl λT=>?_;have c1:(wq.tp T).cell? ⟨E,0,none⟩=some (.func (.func 83) #[] #[.pointer (some ⟨O,0,none⟩),.pointer (some ⟨Y,0,none⟩),.pointer (some ⟨Lp,0,none⟩)]):=k0;go_wp2;refine EL.tape (wq:=wq) ?_ T;refine EL.enter D hb hs (fk:=83) (args:=#[.slice nb now.length nc,.pointer (some ⟨O,0,none⟩),.pointer (some ⟨Y,0,none⟩),.pointer (some ⟨Lp,0,none⟩)]) rfl rfl (λT=>by rw[vV (f:=83) rfl rfl Tp.x83 (by kernel_rfl) rfl];walk_nrm) (z6 83 (by decide)) ?_;refine el83 D hok h8 hin hfs hW hN e9 hne (e6 now b8 (by omega)) _ cs hb hs λv u hR=>?_;obtain⟨d,rfl,hd,hg,b,n,c,g9,g8⟩:=hR;rw[qiA];walk_nrm;refine EL.list D hb hs [3] [_] (rest:=[]) rfl λT=>?_;go_wp2;refine EL.tape (wq:=u) ?_ T;refine EL.region_end D hb hs ?_;refine EL.retS D hb hs ?_;refine HR.out _ _ u ⟨!d,now,?_,rfl,hg,b,n,c,g9,g8⟩;simp only[zJ,zU,q2q hd];cases d<;>rfl
 | succ m ih=>
  intro now from_ nb nc wq o0 e5 b8 hG hW hO hN e9 hnc hne h9;refine EC.of_body1 D (fn:=qn0) (c0:=Tryz.f136.body.getD .skip) (t:=9) Tp.x136 Tryz.func136 (by kernel_rfl) rfl λcs hb b6=>?_;have HR:=qg4 b6;clear b6;have r7:((m:Int)+1 == 0)=false:=by
   rw[beq_eq_false_iff_ne];omega
  have key:∀(d:Nat) (i:Nat) (z:Array qgb) (u:qg7) (o:List Int),d=ws.length - i->i<=1001->z.size=41->z[0]?=some (.slice nb now.length nc)->z[2]?=some (.int .i64 (m+1:Nat))->z[3]?=some (.pointer (some ⟨E,0,none⟩))->z[4]?=some (.pointer (some ⟨Lv,0,none⟩))->z[5]?=some (.pointer (some ⟨Gp,0,none⟩))->z[10]?=some (.int .i64 i) ->
    (wq.tp u.tape).grownBy u (some O)->Out u O o->zU (jI ps l) (zJ ws (m+1) now from_) o0=zU (jI ps l) (zJ ws (m+1) now i) o ->
    EL Tp.prog qgr f Post W (G ((qgA 136).at ⟨z,[]⟩ (.code (sub [1,1,0,1,0,0] (Tryz.f136.body.getD .skip))::.inLoop (sub [1,1,0,1,0,0] (Tryz.f136.body.getD .skip))::.inBlock 0::.code (sub [1,1,1] (Tryz.f136.body.getD .skip))::[])) cs) u:=by
   intro d;induction d with
   | zero=>
    intro i z u o hd hi hz h0 h2 h3 h4 h5 c8 hg c3 c9;obtain⟨y0,y1,y2,y3,y4,y5,y6,y7,y8,y9,y10,y11,y12,y13,y14,y15,y16,y17,y18,y19,y20,y21,y22,y23,y24,y25,y26,y27,y28,y29,y30,y31,y32,y33,y34,y35,y36,y37,y38,y39,y40,rfl⟩:=qdk z hz;clear hz;simp at h0 h2 h3 h4 h5 c8;subst h0 h2 h3 h4 h5 c8;have g5:=qg4 c9;have d8:=q8 (o:=0) (hG.gw hg hO).ls rfl;have hni:¬ (i:Int)<(ws.length:Int):=by omega
    have hge:ws.length<=i:=by omega
    clear hd;simp only[qn0,qgh,sub];refine EL.seq D hb hs ?_;refine EL.sp D hb hs λT=>?_;have c1:(u.tp T).cell? ⟨Lv,0,none⟩=some (.slice lb ws.length lc):=d8;go_wp2;refine EL.tape (wq:=u) ?_ T;refine EL.cond D hb hs false (by rfl) ?_;simp only[if_false,qh2];refine EL.exit D hb hs rfl ?_;refine EL.sp D hb hs λT=>?_;go_wp2;refine EL.tape (wq:=u) ?_ T;refine EL.retS D hb hs ?_;refine HR.out _ _ u ⟨false,o,?_,rfl,hg,c3⟩;rw[c9,q0u (by omega)];rfl
   | succ d ihd=>
    intro i z u o hd hi hz h0 h2 h3 h4 h5 c8 hg c3 c9;obtain⟨y0,y1,y2,y3,y4,y5,y6,y7,y8,y9,y10,y11,y12,y13,y14,y15,y16,y17,y18,y19,y20,y21,y22,y23,y24,y25,y26,y27,y28,y29,y30,y31,y32,y33,y34,y35,y36,y37,y38,y39,y40,rfl⟩:=qdk z hz;clear hz;simp at h0 h2 h3 h4 h5 c8;subst h0 h2 h3 h4 h5 c8;have g5:=qg4 c9;have d5:=hG.gw hg hO;have d8:=q8 (o:=0) d5.ls rfl;have b7:i<ws.length:=by omega
    have hni:(i:Int)<(ws.length:Int):=by omega
    have HD:=qg4 hd;clear hd;have k6:=hN.gr hg hO;have H6:=λk (a1 a3 a6 a7 a8 a9 q6 q5 q0 p9 p8 p7 p6 p5 p4 p3 n9 n8 n7 n6 n4 n3 n2 m9 m8 m7 m6 m5 m4 m3 l9 l8 l7 l6 l5 l4:qgb) LB lo' k8 x hx hend=>reg6 (f:=f) (Post:=Post) (W:=W) (cs:=cs) (k:=k) (y1:=a1) (y3:=a3) (y6:=a6) (y7:=a7) (y8:=a8) (y9:=a9) (y11:=q6) (y12:=q5) (y13:=q0) (y14:=p9) (y15:=p8) (y16:=p7) (y17:=p6) (y18:=p5) (y19:=p4) (y20:=p3) (y21:=n9) (y22:=n8) (y23:=n7) (y24:=n6) (y25:=n4) (y26:=n3) (y27:=n2) (y28:=m9) (y29:=m8) (y30:=m7) (y31:=m6) (y32:=m5) (y33:=m4) (y34:=m3) (y35:=l9) (y36:=l8) (y37:=l7) (y38:=l6) (y39:=l5) (y40:=l4) D hb (u:=u) (E:=E) (Lv:=Lv) (Gp:=Gp) (O:=O) (Y:=Y) (Lp:=Lp) (LB:=LB) (lo:=lo') (nb:=nb) (lc:=lc) (nc:=nc) (i:=i) (m:=m) (ws:=ws) (now:=now) (x:=x) k8 k6 hnc b7 hx (by omega) (by omega) g6 hend;simp only[qn0,qgh,sub,q50] at H6 ihd ⊢;have r5:=qg4 H6;clear H6;have r3:=qg4 ihd;clear ihd;refine EL.seq D hb hs ?_;refine EL.sp D hb hs λT=>?_;have c1:(u.tp T).cell? ⟨Lv,0,none⟩=some (.slice lb ws.length lc):=d8;go_wp2;refine EL.tape (wq:=u) ?_ T;refine EL.cond D hb hs true (by rfl) ?_;simp only[if_true];refine EL.skip D hb hs ?_;refine EL.seq D hb hs ?_;refine EL.block D hb hs ?_;refine EL.seq D hb hs ?_;obtain⟨b1,r8,he,-,hcell⟩:=d5.wsI.cell;cases he;obtain⟨LB,lo',rfl,-,-,-,k9⟩:=hcell (by intro e;rw[e] at b7;simp at b7);have hx:=k9 i b7;refine r5.out _ _ _ _ _ _ _ _ _ _ _ _ _ _ _ _ _ _ _ _ _ _ _ _ _ _ _ _ _ _ _ _ _ _ _ _ _ LB lo' d5 _ hx ?_;intro g cap u' q1 q2 q3 q4;generalize e4:ws[i]?.getD 0=x at hx q3 q4;have gU:(u.tp u'.tape).grownBy u' (some O):=qei _ q2;have e8:=c3.kept q2;have k7:=d5.gw gU c3;have k5:=(hW.gr hg c3).gr gU e8;have d7:∀y∈now++[x],y∈ws:=by
     intro y hy;rcases qiD.1 hy with h | h
     ·exact b8 y h
     ·obtain rfl:=qj2.1 h;rw[<- e4,qge b7];exact qm8 b7
    have b0:(now++[x]).length=now.length+1:=by simp
    have d9:=ih (now++[x]) (i+1) (some ⟨g,0,none⟩) cap u' o (by rw[b0];omega) d7 k7 k5 e8 (by rw[b0];exact q3) (by rw[b0];exact q4) (by rw[b0];exact q1) (.inl (by simp)) (by omega);rw[b0] at d9;have r4:=qg4 d9;clear d9;refine EL.enter D hb hs (fk:=136) (args:=#[.slice (some ⟨g,0,none⟩) (now.length+1) cap,.int .i64 (i+1:Nat),.int .i64 m,.pointer (some ⟨E,0,none⟩),.pointer (some ⟨Lv,0,none⟩),.pointer (some ⟨Gp,0,none⟩)]) rfl rfl (λT=>by rw[vV (f:=136) rfl rfl Tp.x136 (by kernel_rfl) rfl];walk_nrm) (z6 136 (by decide)) ?_;refine r4.out _ cs hb hs λv u2 hR=>?_;obtain⟨b,o2,g7,rfl,hg2,e7⟩:=hR;rw[qiA];walk_nrm;have b9:(wq.tp u2.tape).grownBy u2 (some O):=gb (gb hg gU) hg2;have d6:zU (jI ps l) (zJ ws (m+1) now from_) o0=if b=true then(b,o2) else zU (jI ps l) (zJ ws (m+1) now (i+1)) o2:=by
     rw[g5.out,Z3 b7,e4,KP,g7]
    refine EL.region_end D hb hs ?_;cases b with
    | true=>
     refine EL.cond D hb hs true (by rfl) ?_;simp only[if_true];refine EL.sp D hb hs λT=>?_;go_wp2;refine EL.tape (wq:=u2) ?_ T;refine EL.retS D hb hs ?_;exact HR.out _ _ u2 ⟨true,o2,d6,rfl,b9,e7⟩
    | false=>
     refine EL.cond D hb hs false (by rfl) ?_;simp only[if_false,qh2];refine EL.skip D hb hs ?_;refine EL.inBlock D hb hs ?_;have r6:IntKind.i64.wrap ((i:Int)+1)=((i+1:Nat):Int):=by simp[qm9];omega
     refine EL.piece D hb hs λT=>?_;go_wp2;refine EL.tape (wq:=u2) ?_ T;refine EL.inLoop D hb hs ?_;exact r3.out (i+1) _ u2 o2 (by have:=HD.out;omega) (by omega) (by rfl) (by rfl) (by rfl) (by rfl) (by rfl) (by rfl) (by rfl) b9 e7 d6
  simp only[qn0,qgh,sub] at key ⊢;have q7:=qg4 key;clear key;walk_nrm;refine EL.sp D hb hs λT=>?_;go_wp2;refine EL.tape (wq:=wq) ?_ T;refine EL.seq D hb hs ?_;refine EL.sp D hb hs λT=>?_;go_wp2;refine EL.tape (wq:=wq) ?_ T;refine EL.cond D hb hs false (by rfl) ?_;simp only[if_false,qh2];refine EL.skip D hb hs ?_;refine EL.seq D hb hs ?_;refine EL.sp D hb hs λT=>?_;go_wp2;refine EL.tape (wq:=wq) ?_ T;refine EL.block D hb hs ?_;refine EL.loop D hb hs ?_;exact q7.out (ws.length - from_) from_ _ wq o0 rfl (by omega) (by rfl) (by rfl) (by rfl) (by rfl) (by rfl) (by rfl) (by rfl) (ZE _ _) hO rfl
end
end
section
open Go Go.RowKit Go.Co Go.Sim Go.Conc Go.ConcN
theorem qdl(x:Array qgb)(h:x.size=21):∃y0 y1 y2 y3 y4 y5 y6 y7 y8 y9 y10 y11 y12 y13 y14 y15 y16 y17 y18 y19 y20,x=#[y0,y1,y2,y3,y4,y5,y6,y7,y8,y9,y10,y11,y12,y13,y14,y15,y16,y17,y18,y19,y20]:=by
 have e:=xm x;rw[h] at e;exact⟨_,_,_,_,_,_,_,_,_,_,_,_,_,_,_,_,_,_,_,_,_,e.trans rfl⟩
theorem tpg{w u:qg7}{T:Nat->qih->Nat}{r:Option Nat}(h:(w.tp T).grownBy u r):(w.tp u.tape).grownBy u r:=⟨h.os,rfl,h.output,h.size,h.block⟩
theorem q80{w u v:qg7}{O:Nat}(h:(w.tp u.tape).grownBy u none)(k:(u.tp v.tape).grownBy v (some O))(hO:w.heap.size<=O):(w.tp v.tape).grownBy v none :=
 ⟨k.os.trans h.os,rfl,k.output.trans h.output,qgi h.size k.size,λi hi _=>(k.block i (qgp hi h.size) (by intro e;cases e;exact absurd hi (by show ¬ O<w.heap.size;omega))).trans (h.block i hi (by simp))⟩
theorem xF.knone{w u:qg7}{O Y L:Nat}{yb:Option qho}{ps:List Par}{yc:Nat}{lim:Int}{pb:Option qho}{l:List Int}{pc:Nat}(h:xF w O Y L yb ps yc lim pb l pc)(hg:(w.tp u.tape).grownBy u none):xF u O Y L yb ps yc lim pb l pc:=by
 obtain⟨b,n,c,h1⟩:=h.out;exact(h.tp _).kept (hg.but _) ⟨b,n,c,blk hg (by simp) h1⟩
theorem qe.knone{w u:qg7}{v:qgb}{l:List Int}(h:qe 0 w.heap.size w v l)(hg:(w.tp u.tape).grownBy u none):qe 0 u.heap.size u v l:=(qe.kept (w:=w.tp u.tape) h hg (by simp)).mono (qg9 _) hg.size
section
variable[J:JunkSet]{f:qhs}{Post:qgb->qg7->Prop}{W:qg7}
theorem el82(D:Two Tp.prog qgr)(hok:JunkSet.okf 137)(l8:∀i,¬ JunkSet.jk i)(hin:Tp.prog.inits.idxOf? f=none)(hfs:∃g,Tp.prog.funcs[f]?=some g/\Tryz.prog.funcs[f]?=some g){ps:List Par}{l ws o0:List Int}{yb pb:Option qho}{yc pc O Y Lp:Nat}{lim:Int}(l6:ws.length<=1000)(h9:∀c:List Int,(∀y∈c,y∈ws)->c.length<=ws.length->qbu ps l c)(hS:ZL l ws){wq:qg7}(hW:xF wq O Y Lp yb ps yc lim pb l pc)(hO:Out wq O o0) :EC Tp.prog qgr f Post W 82 #[.slice pb l.length pc,.func (.func 83) #[] #[.pointer (some ⟨O,0,none⟩),.pointer (some ⟨Y,0,none⟩),.pointer (some ⟨Lp,0,none⟩)]] wq λv u=>∃b o,zU (jI ps l) (j3 ws 0) o0=(b,o)/\v=.bool b/\(wq.tp u.tape).grownBy u (some O)/\Out u O o:=by
 have hs:Tp.prog.funcs[(qgA 82).fn]?=Tryz.prog.funcs[(qgA 82).fn]?:=z6 82 (by decide);refine EC.of_body1 D (fn:=qot) (c0:=Tryz.f82.body.getD .skip) (t:=4) Tp.x82 Tryz.func82 (by kernel_rfl) rfl λcs hb d8=>?_;have HR:=qg4 d8;clear d8;have m8:O<wq.heap.size:=by obtain⟨b,n,c,h1⟩:=hW.out;exact(qg8.1 h1).1
 simp only[qot,qgh];walk_nrm;refine EL.sp D hb hs λT=>?_;go_wp2;obtain⟨Lv,b6⟩:∃Lv,Lv=(wq.tp T).heap.size:=⟨_,rfl⟩;rw[<- b6];have g1:(wq.tp T).grownBy (((wq.tp T).alloc (.cells #[.slice pb l.length pc] 29)).alloc (.cells #[.func (.func 83) #[] #[.pointer (some ⟨O,0,none⟩),.pointer (some ⟨Y,0,none⟩),.pointer (some ⟨Lp,0,none⟩)]] 51)) none:=(qg6 _ _ none).trans (qg6 _ _ none);have l1:(((wq.tp T).alloc (.cells #[.slice pb l.length pc] 29)).alloc (.cells #[.func (.func 83) #[] #[.pointer (some ⟨O,0,none⟩),.pointer (some ⟨Y,0,none⟩),.pointer (some ⟨Lp,0,none⟩)]] 51)).heap[Lv]?=some (.cells #[.slice pb l.length pc] 29 (0,0)):=by rw[b6];exact qq (qgg (wq.tp T) _)
 have e1:(((wq.tp T).alloc (.cells #[.slice pb l.length pc] 29)).alloc (.cells #[.func (.func 83) #[] #[.pointer (some ⟨O,0,none⟩),.pointer (some ⟨Y,0,none⟩),.pointer (some ⟨Lp,0,none⟩)]] 51)).heap[Lv+1]?=some (.cells #[.func (.func 83) #[] #[.pointer (some ⟨O,0,none⟩),.pointer (some ⟨Y,0,none⟩),.pointer (some ⟨Lp,0,none⟩)]] 51 (0,0)):=by
  have:=qgg ((wq.tp T).alloc (.cells #[.slice pb l.length pc] 29)) (.cells #[.func (.func 83) #[] #[.pointer (some ⟨O,0,none⟩),.pointer (some ⟨Y,0,none⟩),.pointer (some ⟨Lp,0,none⟩)]] 51);rw[qgk] at this;rw[b6];exact this
 generalize ((wq.tp T).alloc (.cells #[.slice pb l.length pc] 29)).alloc (.cells #[.func (.func 83) #[] #[.pointer (some ⟨O,0,none⟩),.pointer (some ⟨Y,0,none⟩),.pointer (some ⟨Lp,0,none⟩)]] 51)=u1 at g1 l1 e1 ⊢;have hg1:=tpg g1;have k5:=hW.ints.knone hg1;clear g1;have g7:=qg4 (show Lv=wq.heap.size from b6);show EL _ _ _ _ _ _ _;clear b6;refine EL.sp D hb hs λT=>?_;have c1:(u1.tp T).cell? ⟨Lv,0,none⟩=some (.slice pb l.length pc):=q8 l1 rfl;have g8:=qg4 l1;have l5:=qg4 e1;have k9:=qg4 hg1;have g9:=qg4 (show qe 0 (u1.tp T).heap.size (u1.tp T) (.slice pb l.length pc) l from k5);have b7:Lv<(u1.tp T).heap.size:=(qg8.1 l1).1;clear l1 e1 hg1 k5;obtain⟨a7,a8⟩:∃a7,a7=u1.tp T:=⟨_,rfl⟩;rw[<- a8] at g9 c1 b7 ⊢;have HU:=qg4 a8;clear a8;have h8:a7.frozen? ⟨Lv,0,none⟩=false:=by rw[HU.out];exact qn g8.out
 go_wp2_with (first
  | (go_at_call 135;refine(QR _ _ _ _).mono ?_;rintro e w2 ⟨rfl,rfl⟩)
  | (go_at_call 134;refine(hS a7.heap.size (.slice pb l.length pc) _ (by simp) (by rw[jh];rfl) ((g9.out.alloc _).mono (qg9 _) (by simp))).mono ?_;rintro e w2 ⟨v,rfl,e8,d9,hg2⟩;obtain⟨lb,lc,rfl,-,-⟩:=e8.cell;have c2:=(((qg6 a7 (.cells #[.slice pb l.length pc] 29) none).trans hg2).cell c1 (by simp));have z2:=(((qg6 a7 (.cells #[.slice pb l.length pc] 29) none).trans hg2).frozen_far _ b7 (by simp)).trans h8;have k7:=qg4 e8;have d6:=qg4 ((qg6 a7 (.cells #[.slice pb l.length pc] 29) none).trans hg2);have m7:=qg4 d9;clear e8 d9 hg2))
 have a6:=qf w2 Lv 0 (.slice lb ws.length lc);have e7:w2.heap[Lv]?=some (.cells #[.slice pb l.length pc] 29 (0,0)):=blk d6.out (by simp) (by rw[HU.out];exact g8.out);have l2:(w2.setCell ⟨Lv,0,none⟩ (.slice lb ws.length lc)).heap[Lv]?=some (.cells #[.slice lb ws.length lc] 29 (0,0)):=by rw[qh e7];rfl
 have m4:=blk (X:=Lv+1) d6.out (by simp) (by rw[HU.out];exact l5.out);have e2:=blk a6 (by simp) m4;have i2:=(k7.out.kept a6 (λR e=>by cases e;left;rw[qgk];omega)).mono (qh1 _) a6.size;have g5:(wq.tp (w2.setCell ⟨Lv,0,none⟩ (.slice lb ws.length lc)).tape).grownBy (w2.setCell ⟨Lv,0,none⟩ (.slice lb ws.length lc)) none:=by
  have a:=d6.out;rw[HU.out] at a;exact q80 k9.out (tpg ((a.but (some Lv)).trans a6)) (by rw[g7.out];exact qg9 _)
 show EL _ _ _ _ _ _ _;generalize w2.setCell ⟨Lv,0,none⟩ (.slice lb ws.length lc)=u2 at a6 l2 e2 i2 g5 ⊢;clear e7 k7 d6 m7 c2 z2 a6 h8 HU g9 c1 b7 k9 l5 g8;refine EL.sp D hb hs λT=>?_;go_wp2;obtain⟨Gp,d5⟩:∃Gp,Gp=(u2.tp T).heap.size:=⟨_,rfl⟩;rw[<- d5];have g3:(u2.tp T).grownBy ((u2.tp T).alloc (.cells #[.nilFunc] 151)) none:=qg6 _ _ none;have p3:((u2.tp T).alloc (.cells #[.nilFunc] 151)).heap[Gp]?=some (.cells #[.nilFunc] 151 (0,0)):=by rw[d5];exact qgg (u2.tp T) _
 have l3:=blk g3 (by simp) (show(u2.tp T).heap[Lv]?=_ from l2);have e3:=blk g3 (by simp) (show(u2.tp T).heap[Lv+1]?=_ from e2);have e9:=gb g5 (tpg g3);have i3:=i2.knone (tpg g3);have n3:Lv<Gp:=by rw[d5];exact(qg8.1 l2).1
 show EL _ _ _ _ _ _ _;generalize (u2.tp T).alloc (.cells #[.nilFunc] 151)=u3 at g3 p3 l3 e3 e9 i3 ⊢;clear g3 l2 e2 i2 d5 g5;refine EL.sp D hb hs λT=>?_;have c3:(u3.tp T).cell? ⟨Gp,0,none⟩=some .nilFunc:=q8 p3 rfl;have z3:(u3.tp T).frozen? ⟨Gp,0,none⟩=false:=qn p3;have n2:∀(a:qho) (fn:Fn) (x y:Array qgb) (m:Mode) (w:qg7),(store a (.func fn x y) m).run Tp.prog w=stored Tp.prog w a (.func fn x y) m:=λa fn x y m w=>run_store _ w a _ m rfl;go_wp2;have a6:=qf (u3.tp T) Gp 0 (.func (.func 136) #[] #[.pointer (some ⟨Lv+1,0,none⟩),.pointer (some ⟨Lv,0,none⟩),.pointer (some ⟨Gp,0,none⟩)]);have p4:((u3.tp T).setCell ⟨Gp,0,none⟩ (.func (.func 136) #[] #[.pointer (some ⟨Lv+1,0,none⟩),.pointer (some ⟨Lv,0,none⟩),.pointer (some ⟨Gp,0,none⟩)])).heap[Gp]?=some (.cells #[.func (.func 136) #[] #[.pointer (some ⟨Lv+1,0,none⟩),.pointer (some ⟨Lv,0,none⟩),.pointer (some ⟨Gp,0,none⟩)]] 151 (0,0)):=by
  rw[qh (show(u3.tp T).heap[Gp]?=_ from p3)];rfl
 have l4:=blk a6 (by simp;omega) (show(u3.tp T).heap[Lv]?=_ from l3);have e4:=blk a6 (λe=>kD (show(u3.tp T).heap[Lv+1]?=_ from e3) (show(u3.tp T).heap[Gp]?=_ from p3) (by decide) (by cases e;rfl)) (show(u3.tp T).heap[Lv+1]?=_ from e3);have i4:qe 0 ((u3.tp T).setCell ⟨Gp,0,none⟩ (.func (.func 136) #[] #[.pointer (some ⟨Lv+1,0,none⟩),.pointer (some ⟨Lv,0,none⟩),.pointer (some ⟨Gp,0,none⟩)])).heap.size ((u3.tp T).setCell ⟨Gp,0,none⟩ (.func (.func 136) #[] #[.pointer (some ⟨Lv+1,0,none⟩),.pointer (some ⟨Lv,0,none⟩),.pointer (some ⟨Gp,0,none⟩)])) (.slice lb ws.length lc) ws:=by
  obtain⟨base,cap,e,hl,hr⟩:=i3;refine⟨base,cap,e,hl,λhne=>?_⟩;obtain⟨B,o,cs,fr,e1,e2,e3,e4,e5⟩:=hr hne;exact⟨B,o,cs,fr,e1,e2,qgp e3 a6.size,blk a6 (λe=>kD (show(u3.tp T).heap[B]?=_ from e4) (show(u3.tp T).heap[Gp]?=_ from p3) (by decide) (by cases e;rfl)) e4,e5⟩
 have c8:=q80 e9 (tpg a6) (by have:=g7.out;omega);show EL _ _ _ _ _ _ _;generalize (u3.tp T).setCell ⟨Gp,0,none⟩ (.func (.func 136) #[] #[.pointer (some ⟨Lv+1,0,none⟩),.pointer (some ⟨Lv,0,none⟩),.pointer (some ⟨Gp,0,none⟩)])=u4 at a6 p4 l4 e4 i4 c8 ⊢;clear a6 c3 z3 p3 l3 e3 e9 i3;have hG:JM u4 (Lv+1) Lv Gp O Y Lp lb lc ws:=⟨e4,l4,i4,p4,by have:=g7.out;omega⟩;have m3:=hW.knone c8;have k0:=hO.kept c8;have k8:=qg4 c8;clear e4 i4 p4 c8;have key:∀(d:Nat) (k:Nat) (z:Array qgb) (u:qg7) (o:List Int),d=ws.length+1 - k->k<=ws.length+1->z.size=21->z[5]?=some (.pointer (some ⟨Gp,0,none⟩))->z[13]?=some (.int .i64 (ws.length+1:Nat))->z[14]?=some (.int .i64 k) ->
   (u4.tp u.tape).grownBy u (some O)->Out u O o->zU (jI ps l) (j3 ws 0) o0=zU (jI ps l) (j3 ws k) o ->
   EL Tp.prog qgr f Post W (G ((qgA 82).at ⟨z,[]⟩ (.code (sub [1,1,1,1,0,1,0,0] (Tryz.f82.body.getD .skip))::.inLoop (sub [1,1,1,1,0,1,0,0] (Tryz.f82.body.getD .skip))::.inBlock 0::.code (sub [1,1,1,1,1] (Tryz.f82.body.getD .skip))::[])) cs) u:=by
  intro d;induction d with
  | zero=>
   intro k z u o hd hk hz h5 b9 b8 hg c9 a9;obtain⟨y0,y1,y2,y3,y4,y5,y6,y7,y8,y9,y10,y11,y12,y13,y14,y15,y16,y17,y18,y19,y20,rfl⟩:=qdl z hz;clear hz;simp at h5 b9 b8;subst h5 b9 b8;have g6:=qg4 a9;have hni:¬ (k:Int)<(ws.length:Int)+1:=by omega
   have hge:ws.length+1<=k:=by omega
   clear hd a9;simp only[qot,qgh,sub];refine EL.sp D hb hs λT=>?_;go_wp2;refine EL.tape (wq:=u) ?_ T;refine EL.seq D hb hs ?_;refine EL.cond D hb hs false (by rfl) ?_;simp only[if_false,qh2];refine EL.exit D hb hs rfl ?_;refine EL.sp D hb hs λT=>?_;go_wp2;refine EL.tape (wq:=u) ?_ T;refine EL.retS D hb hs ?_;refine HR.out _ _ u ⟨false,o,?_,rfl,gb (qei _ k8.out) hg,c9⟩;rw[g6.out,q2s hge];rfl
  | succ d ihd=>
   intro k z u o hd hk hz h5 b9 b8 hg c9 a9;obtain⟨y0,y1,y2,y3,y4,y5,y6,y7,y8,y9,y10,y11,y12,y13,y14,y15,y16,y17,y18,y19,y20,rfl⟩:=qdl z hz;clear hz;simp at h5 b9 b8;subst h5 b9 b8;have g6:=qg4 a9;have hni:(k:Int)<(ws.length:Int)+1:=by omega
   have hlt:k<ws.length+1:=by omega
   have HD:=qg4 hd;clear hd a9;have k6:=hG.gw hg k0;have l9:=m3.gr hg c9;simp only[qot,qgh,sub] at ihd ⊢;have m6:=qg4 ihd;clear ihd;refine EL.sp D hb hs λT=>?_;go_wp2;refine EL.tape (wq:=u) ?_ T;refine EL.seq D hb hs ?_;refine EL.cond D hb hs true (by rfl) ?_;simp only[if_true];refine EL.skip D hb hs ?_;refine EL.seq D hb hs ?_;refine EL.block D hb hs ?_;refine EL.sp D hb hs λT=>?_;go_wp2;refine EL.tape (wq:=u) ?_ T;refine EL.seq D hb hs ?_;refine EL.region D hb hs ?_;simp only[qgF,qgq,qgx,qgG,qgz,qgB,qhg];refine EL.list D hb hs [0,1] [_,_] (rest:=[2]) rfl λT=>?_;have c1:(u.tp T).cell? ⟨Gp,0,none⟩=some (.func (.func 136) #[] #[.pointer (some ⟨Lv+1,0,none⟩),.pointer (some ⟨Lv,0,none⟩),.pointer (some ⟨Gp,0,none⟩)]):=q8 k6.gr rfl;go_wp2;refine EL.tape (wq:=u) ?_ T;refine EL.enter D hb hs (fk:=136) (args:=#[.slice none ([]:List Int).length 0,.int .i64 (0:Nat),.int .i64 k,.pointer (some ⟨Lv+1,0,none⟩),.pointer (some ⟨Lv,0,none⟩),.pointer (some ⟨Gp,0,none⟩)]) rfl rfl (λT=>by rw[vV (f:=136) rfl rfl Tp.x136 (by kernel_rfl) rfl];walk_nrm;rfl) (z6 136 (by decide)) ?_;refine qft D hok l8 hin hfs l6 h9 k [] 0 none 0 u o (by simp;omega) (by simp) k6 l9 c9 (qe.nil _ _ _) (λad n c e=>by cases e) (qg9 _) (.inr rfl) (by omega) _ cs hb hs λv u2 hR=>?_;obtain⟨b,o2,l7,rfl,hg2,e6⟩:=hR;rw[qiA];walk_nrm;have b0:(u4.tp u2.tape).grownBy u2 (some O):=gb hg hg2;have d7:zU (jI ps l) (j3 ws 0) o0=if b=true then(b,o2) else zU (jI ps l) (j3 ws (k+1)) o2:=by
    rw[g6.out,ZT hlt,KP,l7]
   refine EL.region_end D hb hs ?_;cases b with
   | true=>
    refine EL.cond D hb hs true (by rfl) ?_;simp only[if_true];refine EL.sp D hb hs λT=>?_;go_wp2;refine EL.tape (wq:=u2) ?_ T;refine EL.retS D hb hs ?_;exact HR.out _ _ u2 ⟨true,o2,d7,rfl,gb (qei _ k8.out) b0,e6⟩
   | false=>
    refine EL.cond D hb hs false (by rfl) ?_;simp only[if_false,qh2];refine EL.skip D hb hs ?_;refine EL.inBlock D hb hs ?_;have m9:IntKind.i64.wrap ((k:Int)+1)=((k+1:Nat):Int):=by simp[qm9];omega
    refine EL.piece D hb hs λT=>?_;go_wp2;refine EL.tape (wq:=u2) ?_ T;refine EL.inLoop D hb hs ?_;exact m6.out (k+1) _ u2 o2 (by have:=HD.out;omega) (by omega) (by rfl) (by rfl) (by rfl) (by rfl) b0 e6 d7
 simp only[qot,qgh,sub] at key;have m5:=qg4 key;clear key;have hwl:IntKind.i64.wrap ((ws.length:Int)+1)=((ws.length+1:Nat):Int):=by simp[qm9];omega
 refine EL.seq D hb hs ?_;refine EL.sp D hb hs λT=>?_;have c4:(u4.tp T).cell? ⟨Lv,0,none⟩=some (.slice lb ws.length lc):=q8 l4 rfl;go_wp2;refine EL.tape (wq:=u4) ?_ T;refine EL.block D hb hs ?_;refine EL.loop D hb hs ?_;exact m5.out (ws.length+1) 0 _ u4 o0 rfl (by omega) (by rfl) (by rfl) (by rfl) (by rfl) (ZE _ _) k0 rfl
end
end
section
open Go Go.RowKit Go.Co Go.Sim Go.Conc Go.ConcN
theorem qr.knone{w u:qg7}{v:qgb}{l:List Par}(h:qr 0 w.heap.size w v l)(hg:(w.tp u.tape).grownBy u none):qr 0 u.heap.size u v l:=(qr.kept (w:=w.tp u.tape) h hg (by simp)).mono (qg9 _) hg.size
theorem qy.knone{w u:qg7}{v:qgb}(h:qy w v)(hg:(w.tp u.tape).grownBy u none):qy u v:=λad n c e=>by
 obtain⟨cs,e1,f,h1,h2⟩:=h ad n c e;exact⟨cs,e1,f,blk hg (by simp) h1,h2⟩
section
variable[J:JunkSet]{f:qhs}{Post:qgb->qg7->Prop}{W:qg7}
theorem EC.of_body2(D:Two Tp.prog qgr){fk:qhs}{fn:Func}{c0:qiw}{args:Array qgb}{wq:qg7}{R:qgb->qg7->Prop}{t t':Nat}(hf:Tp.prog.funcs[fk]?=some fn)(hp:Tryz.prog.funcs[fk]?=some fn)(a7:fn.body=some c0)(hr:fn.results=#[.tmp t,.tmp t'])(h:∀cs,Bot f cs->(∀tm todo u,R (.tuple #[tm.getD t qgd,tm.getD t' qgd]) u->EL Tp.prog qgr f Post W (G { (qgA fk).at ⟨tm,[]⟩ todo with mode:=.returning } cs) u) ->EL Tp.prog qgr f Post W (G ((qgA fk).at ⟨args++qhk (fn.ntmps - args.size) qgd,[]⟩ [.code c0]) cs) wq):EC Tp.prog qgr f Post W fk args wq R :=
 EC.of_body D hf hp a7 λcs hb a6=>h cs hb λtm todo u hR=>a6 ⟨tm,[]⟩ todo u _ rfl (λT=>results_tmp2 hr _ _ _) hR
theorem qfs(D:Two Tp.prog qgr)(hok:JunkSet.okf 137)(d5:∀i,¬ JunkSet.jk i)(hin:Tp.prog.inits.idxOf? f=none)(hfs:∃g,Tp.prog.funcs[f]?=some g/\Tryz.prog.funcs[f]?=some g){ps:List Par}{l ws:List Int}{yb pb:Option qho}{yc pc:Nat}{lim:Int}(c8:ws.length<=1000)(b6:∀c:List Int,(∀y∈c,y∈ws)->c.length<=ws.length->qbu ps l c)(hS:ZL l ws)(hY:YOk ps lim)(hP:POk ps lim l){wq:qg7}(pars:qr 0 wq.heap.size wq (.slice yb ps.length yc) ps)(yi:qy wq (.slice yb ps.length yc))(ints:qe 0 wq.heap.size wq (.slice pb l.length pc) l)(pi:qy wq (.slice pb l.length pc))(h0:qT wq 0) :EC Tp.prog qgr f Post W 29 #[.agg #[.slice yb ps.length yc,.int .i64 lim],.slice pb l.length pc] wq λv u=>∃o s,v=.tuple #[s,.int .i64 0]/\(∃b,zU (jI ps l) (j3 ws 0) []=(b,o))/\(wq.tp u.tape).grownBy u none/\qe 0 u.heap.size u s o:=by
 have hs:Tp.prog.funcs[(qgA 29).fn]?=Tryz.prog.funcs[(qgA 29).fn]?:=z6 29 (by decide);refine EC.of_body2 D (fn:=Tryz.f29) (c0:=Tryz.f29.body.getD .skip) (t:=4) (t':=5) Tp.x29 Tryz.func29 (by kernel_rfl) rfl λcs hb a8=>?_;have HR:=qg4 a8;clear a8;simp only[Tryz.f29,qgh];walk_nrm;refine EL.sp D hb hs λT=>?_;go_wp2;obtain⟨X,hX⟩:∃X,X=(wq.tp T).heap.size:=⟨_,rfl⟩;rw[<- hX];have g1:(wq.tp T).grownBy (((wq.tp T).alloc (.cells #[.slice yb ps.length yc,.int .i64 lim] 24)).alloc (.cells #[.slice pb l.length pc] 29)) none:=(qg6 _ _ none).trans (qg6 _ _ none);have x1:(((wq.tp T).alloc (.cells #[.slice yb ps.length yc,.int .i64 lim] 24)).alloc (.cells #[.slice pb l.length pc] 29)).heap[X]?=some (.cells #[.slice yb ps.length yc,.int .i64 lim] 24 (0,0)):=by rw[hX];exact qq (qgg (wq.tp T) _)
 have p1:(((wq.tp T).alloc (.cells #[.slice yb ps.length yc,.int .i64 lim] 24)).alloc (.cells #[.slice pb l.length pc] 29)).heap[X+1]?=some (.cells #[.slice pb l.length pc] 29 (0,0)):=by
  have:=qgg ((wq.tp T).alloc (.cells #[.slice yb ps.length yc,.int .i64 lim] 24)) (.cells #[.slice pb l.length pc] 29);rw[qgk] at this;rw[hX];exact this
 show EL _ _ _ _ _ _ _;generalize ((wq.tp T).alloc (.cells #[.slice yb ps.length yc,.int .i64 lim] 24)).alloc (.cells #[.slice pb l.length pc] 29)=u1 at g1 x1 p1 ⊢;have hg1:=tpg g1;clear g1;have HX:=qg4 (show X=wq.heap.size from hX);clear hX;refine EL.sp D hb hs λT=>?_;have c1:(u1.tp T).cell? ⟨X,0,none⟩=some (.slice yb ps.length yc):=q8 x1 rfl;have c2:(u1.tp T).cell? ⟨X,1,none⟩=some (.int .i64 lim):=q8 x1 rfl;have c3:(u1.tp T).cell? ⟨X+1,0,none⟩=some (.slice pb l.length pc):=q8 p1 rfl;have b7:=qg4 (show qr 0 (u1.tp T).heap.size (u1.tp T) (.slice yb ps.length yc) ps from(show qr 0 u1.heap.size u1 (.slice yb ps.length yc) ps from pars.knone hg1));have b8:=qg4 (show qe 0 (u1.tp T).heap.size (u1.tp T) (.slice pb l.length pc) l from(show qe 0 u1.heap.size u1 (.slice pb l.length pc) l from ints.knone hg1));go_wp2_with (first
  | (go_at_call 81;refine(vX 0 _ _ _ ps lim l _ b7.out b8.out (qg9 _) hY hP).mono ?_;rintro e w2 ⟨rfl,hg2⟩;have b9:=qg4 hg2;clear hg2))
 obtain⟨Y,a9⟩:∃Y,Y=w2.heap.size:=⟨_,rfl⟩;rw[<- a9];have ga:(u1.tp T).grownBy (w2.alloc (.cells #[.slice yb ps.length yc,.int .i64 lim] 91)) none:=b9.out.trans (qg6 _ _ none);have b0:=gb hg1 (tpg ga);have y2:(w2.alloc (.cells #[.slice yb ps.length yc,.int .i64 lim] 91)).heap[Y]?=some (.cells #[.slice yb ps.length yc,.int .i64 lim] 91 (0,0)):=by rw[a9];exact qgg _ _
 have p2:=blk ga (by simp) (show(u1.tp T).heap[X+1]?=_ from p1);show EL _ _ _ _ _ _ _;generalize w2.alloc (.cells #[.slice yb ps.length yc,.int .i64 lim] 91)=u2 at ga b0 y2 p2 ⊢;clear ga a9 b9 c1 c2 c3 b7 b8 x1 p1 hg1;refine EL.seq D hb hs ?_;refine EL.sp D hb hs λT=>?_;go_wp2;refine EL.tape (wq:=u2) ?_ T;refine EL.cond D hb hs false (by rfl) ?_;simp only[if_false,qh2];refine EL.skip D hb hs ?_;refine EL.sp D hb hs λT=>?_;go_wp2;obtain⟨O,a7⟩:∃O,O=(u2.tp T).heap.size:=⟨_,rfl⟩;rw[<- a7];have ga:(u2.tp T).grownBy ((u2.tp T).alloc (.cells #[.slice none 0 0] 29)) none:=qg6 _ _ none;have a6:=gb b0 (tpg ga);have o3:((u2.tp T).alloc (.cells #[.slice none 0 0] 29)).heap[O]?=some (.cells #[.slice none 0 0] 29 (0,0)):=by rw[a7];exact qgg _ _
 have y3:=blk ga (by simp) (show(u2.tp T).heap[Y]?=_ from y2);have p3:=blk ga (by simp) (show(u2.tp T).heap[X+1]?=_ from p2);have hne:O≠X+1:=by
  have h1:=(qg8.1 (show(u2.tp T).heap[X+1]?=_ from p2)).1;omega
 show EL _ _ _ _ _ _ _;generalize (u2.tp T).alloc (.cells #[.slice none 0 0] 29)=u3 at ga a6 y3 p3 o3 ⊢;have e5:=qg4 a7;clear ga y2 p2 a7;have e4:Out u3 O []:=⟨none,0,0,o3,qe.nil _ _ _⟩;have d8:xF u3 O Y (X+1) yb ps yc lim pb l pc:=⟨⟨_,_,_,o3⟩,y3,p3,hne,pars.knone a6,yi.knone a6,ints.knone a6,pi.knone a6,by
  obtain⟨cs,e,g,h0,d6⟩:=h0;exact⟨cs,e,g,blk a6 (by simp) h0,d6⟩⟩
 refine EL.seq D hb hs ?_;refine EL.region D hb hs ?_;simp only[qgF,qgq,qgx,qgG,qgz,qgB,qhg];refine EL.list D hb hs [0,1] [_,_] (rest:=[2]) rfl λT=>?_;have c1:(u3.tp T).cell? ⟨X+1,0,none⟩=some (.slice pb l.length pc):=q8 p3 rfl;go_wp2;refine EL.tape (wq:=u3) ?_ T;refine EL.enter D hb hs (fk:=82) (args:=#[.slice pb l.length pc,.func (.func 83) #[] #[.pointer (some ⟨O,0,none⟩),.pointer (some ⟨Y,0,none⟩),.pointer (some ⟨X+1,0,none⟩)]]) rfl rfl (λT=>by rw[qlx (f:=82) rfl Tp.x82 (by kernel_rfl) rfl];walk_nrm) (z6 82 (by decide)) ?_;refine el82 D hok d5 hin hfs c8 b6 hS d8 e4 _ cs hb hs λv u hR=>?_;obtain⟨b,o,c9,rfl,d7,d9⟩:=hR;rw[qiA];walk_nrm;refine EL.region_end D hb hs ?_;refine EL.sp D hb hs λT=>?_;obtain⟨ob,on,oc,o4,i4⟩:=d9;have c1:(u.tp T).cell? ⟨O,0,none⟩=some (.slice ob on oc):=q8 o4 rfl;go_wp2;refine EL.tape (wq:=u) ?_ T;refine EL.retS D hb hs ?_;exact HR.out _ _ u ⟨o,_,rfl,⟨b,c9⟩,q80 a6 d7 (by have h1:=b0.size;have h2:(wq.tp u2.tape).heap.size=wq.heap.size:=rfl;have h3:=e5.out;rw[h3];exact h1),i4⟩
end
end
section
open Go.RowKit
theorem q83(pv:qgb)(ps:List Par)(lim:Int)(w:qg7)(hP:qr 0 w.heap.size w pv ps)(hok:YOk ps lim)(D8:∀x:List Int,x.Nodup->(∀y∈x,0<=y/\y<ps.length)->POk ps lim x)(D2:∀p∈ps,p.tall<=lim)(hN:((j3 (jA ps.length) 0).flatMap QA).length<=1000)(SL:List (List Int))(F4:SL=vD ps (j3 (jA ps.length) 0))(F8:SL.length<=12)(N9:SL≠[])(F2:∀s∈zE SL.length SL,s≠[]/\∀x∈s,0<=x/\x<5)(f:Nat)(r6:f<=100)(R:List (List Int))(hf:qav f (zE SL.length SL) (zu (jA ps.length)) [([],0)]=some (some R)) :qhf Tp.prog 63 #[.agg #[pv,.int .i64 lim]] w λe w'=>∃v,e=.returned (.tuple #[v,.int .i64 0])/\w.grownBy w' none/\RowsIn 0 w'.heap.size w' v R:=by
 obtain⟨i0,E8,D1,D0,C9⟩:=qiv Tp.info133p;obtain⟨yb,yc,rfl,R8,-⟩:=hP.cell;have HP:=qg4 hP;have t2:=qg4 hok;have K2:=qg4 D8;have H3:=qg4 D2;have HN:=qg4 hN;have v6:=qg4 F4;have HF:=qg4 hf;have v4:=qg4 F2;clear hP hok D8 D2 hN F4 hf F2;go_enter Tp.x63,Tryz.ntmps63;go_wp2;refine wp_scope_straight ?_;go_upto_region 4 with(first
  | (go_at_call 81;go_must (refine(vX 0 w.heap.size _ _ ps lim [] _ (HP.out.kept (qg6 _ _ none) (by simp)) (qe.nil _ _ _) (by simp) t2.out (POk.nil ps t2.out.l1)).mono ?_);rintro e w2 ⟨rfl,G7⟩;have d8:=qg4 ((qg6 w (.cells #[.slice yb ps.length yc,.int .i64 lim] 24) none).trans G7);clear G7))
 obtain⟨Y,A8⟩:∃Y,Y=w2.heap.size:=⟨_,rfl⟩;obtain⟨w3,u0⟩:∃w3,w3=w2.alloc (.cells #[.slice yb ps.length yc,.int .i64 lim] 91):=⟨_,rfl⟩;rw[<- A8,<- u0];have r9:w3.heap[Y]?=some (.cells #[.slice yb ps.length yc,.int .i64 lim] 91 (0,0)):=by rw[u0,A8];exact qgg _ _
 have v3:w.grownBy w3 none:=d8.out.trans (by rw[u0];exact qg6 _ _ none);have B8:=qg4 r9;have t7:=qg4 v3;have q0:=q8 r9 (o:=0) rfl;have q1:=q8 r9 (o:=1) rfl;have L2:=qg4 ((HP.out.kept v3 (by simp)).mono (qg9 _) v3.size);clear A8 u0 r9 v3;go_wp2;go_loopw [29] (λiv wr=>∃k:Nat,iv=.int .i64 k/\k<=ps.length/\w3.grownBy wr none) (λiv _=>(ps.length - qhj iv).toNat)
 case atStart=>exact⟨0,rfl,by omega,qgn _ _⟩
 case round=>
  obtain⟨k,rfl,hk,hG⟩:=hrel;have HG:=qg4 hG;have C3:=L2.out.kept hG (by simp);have M6:=hG.cell q0 (by simp);have M5:=hG.cell q1 (by simp);have N8:Y<wr.heap.size:=by have:=qz B8.out;have:=hG.size;omega
  clear hG;by_cases hlt:k<ps.length
  ·obtain⟨b2,c2,he,-,hc⟩:=C3.cell;cases he;obtain⟨YB,yo,rfl,S8,S7,r9,m4⟩:=hc (by intro e;rw[e] at hlt;simp at hlt);obtain⟨p,hp,p0,p1,p2,p3⟩:=m4 k (by omega);have S4:=H3.out p (qgj hp);have E6:(k:Int)<(ps.length:Int):=by omega
   clear hc m4 hp C3;go_wp2;go_roundw
   case rel=>exact⟨k+1,by simp,by omega,HG.out.trans (qg6 _ _ _)⟩
   case measure=>simp[qhj];omega
  ·obtain rfl:k=ps.length:=by omega
   clear C3;go_upto_region 11 with(fail);obtain⟨Sg,B3⟩:∃Sg,Sg=wr.heap.size:=⟨_,rfl⟩;obtain⟨w4,t9⟩:∃w4,w4=wr.alloc (.cells #[.slice none 0 0] 36):=⟨_,rfl⟩;rw[<- B3,<- t9];have H0:w4.heap[Sg]?=some (.cells #[.slice none 0 0] 36 (0,0)):=by rw[t9,B3];exact qgg _ _
   have s5:w3.grownBy w4 none:=HG.out.trans (by rw[t9];exact qg6 _ _ none);have m4:=blk s5 (by simp) B8.out;have S2:w.heap.size<=Sg:=by have:=t7.out.size;have:=HG.out.size;omega
   have C7:=qg4 H0;have s6:=qg4 m4;have k7:=qg4 (t7.out.trans s5);have L1:=qg4 ((HP.out.kept (t7.out.trans s5) (by simp)).mono (qg9 _) (t7.out.trans s5).size);have c0:=q8 m4 (o:=0) rfl;have c1:=q8 m4 (o:=1) rfl;clear B3 t9 H0 s5 m4 B8 q0 q1 M6 M5 N8;have hn:ps.length<=1000:=by have:=t2.out.len;omega
   go_upto_region 12 with(first
    | (go_at_call 100;refine(xY yb ps.length yc lim w4 hn).mono ?_;rintro e w5 ⟨v5,rfl,G5,B7⟩;obtain⟨b5,k5,e5,-,-⟩:=B7.cell;rw[zA] at e5;subst e5;have c3:=qg4 G5;have L9:=qg4 B7;clear G5 B7)
    | (go_at_call 82;refine(qcA (blk c3.out (by simp) s6.out) ((L1.out.kept c3.out (by simp)).mono (qg9 _) c3.out.size) (blk c3.out (by simp) C7.out) t2.out K2.out HN.out (L9.out.mono (qh1 _) (qg9 _))).mono ?_;rintro e w6 ⟨rfl,G6,G8⟩;have k8:=qg4 G8;clear G8))
   obtain⟨SB,sc,k6,F6,n6⟩:=k8.out.rows (by rw[<- v6.out];exact N9) (by rw[<- v6.out];omega);rw[<- v6.out] at k6 n6;have d7:w.grownBy w6 none:=⟨k8.out.os.trans (k7.out.trans c3.out).os,k8.out.tape.trans (k7.out.trans c3.out).tape,k8.out.output.trans (k7.out.trans c3.out).output,qgi (k7.out.trans c3.out).size k8.out.size,λk hk _=>(k8.out.keep k (qgp hk (k7.out.trans c3.out).size) (by omega)).trans ((k7.out.trans c3.out).block k hk (by simp))⟩;have A9:w6.heap[Y]?=_:=(k8.out.keep Y (qz (blk c3.out (by simp) s6.out)) (λe=>by have h:=s6.out;rw[e,C7.out] at h;injection h with h;injection h with _ h _;exact absurd h (by decide))).trans (blk c3.out (by simp) s6.out);have N1:=n6;obtain⟨S9,p5,-⟩:=N1;have F5:SB<w6.heap.size:=qz p5;have M2:=qg4 d7;have H2:=qg4 A9;have H7:=qg4 k6;have H9:=qg4 n6;have M7:w.heap.size<=SB:=by have:=(k7.out.trans c3.out).size;omega
   have F3:SB≠Sg:=λe=>by rw[e,k6] at p5;injection p5 with h;injection h with _ h _;exact absurd h (by decide)
   have B4:SB≠Y:=λe=>by rw[e,A9] at p5;injection p5 with h;injection h with _ h _;exact absurd h (by decide)
   have L6:=qg4 (show w5.heap.size<=SB from F6);have c6:=q8 k6 (o:=0) rfl;clear d7 A9 k6 n6 F6 c0 c1 k8 p5;go_upto_region 13 with(first
    | (go_at_call 121;refine(q9t _ _ SB 0 sc SL w6 H9.out (qg9 _) F8).mono ?_;rintro e w7 ⟨rfl,G4,G1⟩;have g7:=qg4 G4;have H8:=qg4 G1;clear G4 G1))
   have v0:=blk g7.out (by simpa using λe=>B4 e.symm) H2.out;have F7:=blk g7.out (by simpa using λe=>F3 e.symm) H7.out;have T1:=qg4 v0;have H6:=qg4 F7;have g5:w.grownBy w7 none:=xB M2.out g7.out M7;have M1:=qg4 g5;have d0:=q8 v0 (o:=0) rfl;have d1:=q8 v0 (o:=1) rfl;clear v0 F7 c6 g5;have h5:∀x∈jA ps.length,0<=x/\x<5:=λx hx=>by have:=q36 hx;have:=t2.out.len;omega
   have H5:=qg4 h5;clear h5;go_upto_region 14 with(first
    | (go_at_call 100;refine(xY yb ps.length yc lim w7 hn).mono ?_;rintro e w9 ⟨v9,rfl,G3,B6⟩;obtain⟨b9,k9,e9,-,-⟩:=B6.cell;rw[zA] at e9;subst e9;have v8:=qg4 G3;have L8:=qg4 B6;clear G3 B6)
    | (go_at_call 123;refine(q0a _ _ _ _ w9 L8.out H5.out).mono ?_;rintro e R5 ⟨rfl,rfl⟩))
   obtain⟨S,hS⟩:∃S,S=zE SL.length SL:=⟨_,rfl⟩;have m5:S.length=SL.length:=by rw[hS,Jt]
   rw[<- hS] at HF v4;obtain⟨al,F1⟩:∃al,al=zu (jA ps.length):=⟨_,rfl⟩;rw[<- F1] at HF ⊢;have F9:RowsIn 0 w9.heap.size w9 (.slice (some ⟨SB,0,none⟩) S.length sc) S:=by
    have h1:zj w5.heap.size w6.heap.size SB 0 w7 S:=by rw[hS];exact H8.out
    have h2:=h1.rows F5 L6.out (by omega) sc;exact(h2.kept v8.out (by simp)).mono (qh1 _) (qgi g7.out.size v8.out.size)
   rw[<- m5] at H6;have E9:w.grownBy w9 none:=M1.out.trans v8.out;have z8:=blk v8.out (by simp) H6.out;have c9:=q8 z8 (o:=0) rfl;have R3:=qz z8;have P2:=qg4 F9;have P8:=qg4 E9;have P1:=qg4 m5;have s1:S.length<=12:=by omega
   clear hS F1 F9 E9 z8 m5 v6 H3 HN K2 HP L2 L1 C7 s6 H2 H7 H9 H8 L9 L8 d8 t7 k7 c3 M2 g7 M1 HG d0 d1 L6 H5;go_upto_region 15 with(fail);have G9:q5E S al R (.slice (some ⟨w9.heap.size,0,none⟩) 1 1) (w9.alloc (.cells #[.slice none 0 0,.int .u8 0] 133)) f:=by
    refine⟨[([],0)],⟨_,1,rfl,λ_=>⟨w9.heap.size,0,_,_,rfl,by simp,qgg _ _,λi hi=>?_⟩⟩,⟨by simp,λp hp=>?_⟩,λp hp=>?_,HF.out⟩
    ·obtain rfl:i=0:=by simp at hi;omega
     exact⟨([],0),_,_,rfl,rfl,rfl,⟨none,0,rfl,by simp,λh=>absurd rfl h⟩,rfl,λa n c e=>by cases e;omega⟩
    ·obtain rfl:p=([],0):=by simpa using hp
     simp
    ·obtain rfl:p=([],0):=by simpa using hp
     simpa using r6
   have P9:=qg4 G9;clear G9;refine wp_label ?_;go_wp2;go_loopw [10] (λnv wr=>(∃m,m<=100/\q5E S al R nv wr m)/\w9.grownBy wr none) (λnv wr=>q69 S al R nv wr)
   case atStart=>exact⟨⟨f,r6,P9.out⟩,qg6 _ _ none⟩
   case round=>
    obtain⟨wo,rfl⟩:∃x,x=wr:=⟨wr,rfl⟩;obtain⟨⟨m,hm,hP⟩,hg⟩:=hrel;have hQ:=q51 hm hP;have N5:=q2G hm hP;obtain⟨m0,A4⟩:∃m0,m0=q69 S al R u10 wo:=⟨_,rfl⟩;rw[<- A4] at hQ N5;obtain⟨recs,p4,q4,D4,n4⟩:=hQ;have D6:=p4;obtain⟨nb,nc,rfl,-⟩:=D6;cases m0 with
    | zero=>cases n4
    | succ n=>
     simp only[qav] at n4;have P7:=qg4 A4;have HG:=qg4 hg;have P3:=qg4 p4;have s8:=qg4 q4;have C0:=qg4 D4;have x8:=qg4 n4;have N0:=q4.1;have N4:n<100:=by omega
     clear hm hP hg A4 p4 q4 D4 n4;go_wp2;go_loopw [11,53] (λnx iv wq=>∃k:Nat,iv=.int .i64 k/\k<=recs.length/\(∀p∈recs.take k,p.2≠al)/\wo.grownBy wq none/\jG wo.heap.size wq nx (jt S (recs.take k))) (λ_ iv _=>(recs.length - qhj iv).toNat)
     case atStart=>exact⟨0,rfl,by omega,by simp,qgn _ _,jG.nil _ _⟩
     case round=>
      obtain⟨k,rfl,hk,E3,A7,l7⟩:=hrel;have t6:=qg4 A7;have e4:=A7;have C5:=qg4 E3;have v7:=qg4 l7;clear A7 E3 l7;by_cases hlt:k<recs.length
      ·obtain⟨RB,ro,p,pa,pn,pc,rfl,E0,D9,r1,r2,r3,r4⟩:=P3.out.at hlt;have N7:=e4.cell r1 (by simp);have N6:=e4.cell r2 (by simp);have E6:(k:Int)<(recs.length:Int):=by omega
       obtain⟨a7,a8⟩:=p;dsimp only at r1 r2 r3 r4 D9;subst D9;have H1:=(HG.out.trans e4).cell c9 (by simp);have R2:Sg<wr.heap.size:=by have:=(HG.out.trans e4).size;omega
       go_upto_region 19 with(fail);obtain⟨Pb,v2⟩:∃Pb,Pb=wr.heap.size:=⟨_,rfl⟩;obtain⟨w1,u5⟩:∃w1,w1=wr.alloc (.cells #[.slice pa a7.length pc,.int .u8 (a8:Nat)] 133):=⟨_,rfl⟩;rw[<- v2,<- u5];have h9:wr.grownBy w1 none:=by rw[u5];exact qg6 _ _ none
       have m8:w1.heap[Pb]?=some (.cells #[.slice pa a7.length pc,.int .u8 (a8:Nat)] 133 (0,0)):=by rw[u5,v2];exact qgg _ _
       have b0:=q8 m8 (o:=0) rfl;have b1:=q8 m8 (o:=1) rfl;have P0:=h9.cell H1 (by simp);have K1:=qg4 r3;have P4:=qg4 ((r3.kept (e4.trans h9) (by simp)).mono (qg9 _) (e4.trans h9).size);have L0:=qg4 m8;have n8:=qg4 h9;have t1:=qg4 v2;have p6:=qg4 E0;clear m8 u5 h9 v2 r1 r2 r3 N7 N6 E0 H1 e4;by_cases A0:a8=al
       ·subst A0;go_wp2;rw[Exit.noGoto_ret];go_ret2;have c8:=x8.out;rw[q6u (λp:Rec=>p.2 == a8) recs k _ p6.out (by simp) (λi y hi hy=>by
         have:=C5.out y (qgj (by rw[qj3 hi];exact hy));simpa using this)] at c8
        simp only[qhc] at c8;exact⟨_,rfl,P8.out.trans (HG.out.trans (t6.out.trans n8.out)),by rw[<- c8];exact P4.out⟩
       ·have Q4:((a8:Int) == (al:Int))=false:=by rw[beq_eq_false_iff_ne];omega
        have P5:=qg4 A0;clear A0;obtain⟨wp,hwp⟩:∃x,x=wr:=⟨wr,rfl⟩;have x6:wo.grownBy w1 none:=t6.out.trans n8.out;have Q2:wo.heap.size<=Pb:=by have:=t6.out.size;have:=t1.out;omega
        have E5:∀g,u11.ownBlock=some g->g≠Pb:=λg e=>by
         obtain⟨C,h1,-,-⟩:=v7.out;have:=(h1.lt g e).2;have:=t1.out;omega
        have L5:=qg4 (v7.out.kept n8.out);have M0:=qg4 x6;have P6:=qg4 E5;clear hwp x6 E5 v7 n8 t6 t1;go_wp2;clear b0 b1 P0;go_loopw [11,65] (λnx iv wq=>∃j:Nat,iv=.int .i64 j/\j<=S.length/\wo.grownBy wq none/\wq.heap[Pb]?=some (.cells #[.slice pa a7.length pc,.int .u8 (a8:Nat)] 133 (0,0))/\(∀g,nx.ownBlock=some g->g≠Pb)/\jG wo.heap.size wq nx (jt S (recs.take k)++((S.take j).filter (okF (a7,a8))).map (QC (a7,a8)))) (λ_ iv _=>(S.length - qhj iv).toNat)
        case atStart=>exact⟨0,rfl,by omega,M0.out,L0.out,P6.out,by simpa using L5.out⟩
        case round=>
         obtain⟨j,rfl,hj,l8,g9,x5,x4⟩:=hrel;have S6:=q8 (o:=0) g9 rfl;have R1:=q8 (o:=1) g9 rfl;have g6:=qg4 l8;have e7:=qg4 g9;have e8:=qg4 x5;have n7:=qg4 x4;have Q1:=l8.size;have R4:=qz g9;clear g9 x5 x4;by_cases A6:j<S.length
         ·obtain⟨R7,R6,eS,-,v1⟩:=(P2.out.kept (HG.out.trans l8) (by simp)).cell;cases eS;obtain⟨T0,so,eS,-,-,-,v1⟩:=v1 (by intro e;rw[e] at A6;simp at A6);cases eS;obtain⟨s,x,z7,M8,u6⟩:=v1 j A6;rw[qgz] at M8;obtain⟨xb,xc,rfl,-,x1⟩:=u6.cell;obtain⟨x0,D3⟩:=v4.out s (qgj z7);obtain⟨XB,xo,rfl,-,-,-,l4⟩:=x1 x0;have z5:0<s.length:=qkg.2 x0;have l4:=l4 0 z5;have R0:(j:Int)<(S.length:Int):=by omega
          have M3:(0:Int)<(s.length:Int):=by omega
          have p9:=λC (h:World.grownBy _ C none)=>q0a _ _ _ s C (u6.kept h (by simp)) D3;have A3:=Qs s 5 λy hy=>by have:=D3 y hy;omega
          have m9:okF (a7,a8) s=(!(decide (0<a7.length) && decide (Ju s<=Ju (q6p a7))) && decide (a8 &&& zu s=0)):=rfl;have q6:=(s8.out.2 _ (qgj p6.out)).2.1;have d6:=q8k ⟨a8,q6⟩ ⟨zu s,A3⟩;have hor:=qbc ⟨a8,q6⟩ ⟨zu s,A3⟩;have r7:QC (a7,a8) s=(a7++[s],a8 ||| zu s):=rfl;simp only at d6 hor q6;rw[show s[0]?.getD 0=Ju s from rfl] at l4;generalize zu s=ms at p9 A3 m9 d6 hor r7;generalize Ju s=hs at l4 m9;have x7:(S.take (j+1)).filter (okF (a7,a8))=(S.take j).filter (okF (a7,a8))++(if okF (a7,a8) s=true then[s] else[]):=by
           rw[qhd,z7,qls];simp[List.filter_cons]
          have t8:=qg4 x7;have e6:=qg4 p9;have b6:=qg4 m9;have n9:=qg4 d6;have L4:=qg4 hor;have z0:=qg4 r7;have H4:=qg4 u6;have s9:=qg4 ((K1.out.kept l8 (by simp)).mono (qg9 _) l8.size);clear x7 p9 m9 d6 hor r7 u6 v1 z7 l8 x1;have r8:okF (a7,a8) s=false->∀C,wr.grownBy C none->jG wo.heap.size C u11 (jt S (recs.take k)++((S.take (j+1)).filter (okF (a7,a8))).map (QC (a7,a8))):=λe C h=>by
           rw[t8.out,e];simpa using n7.out.kept h
          have m7:=qg4 r8;clear r8;have w8:w9.heap.size<=wr.heap.size:=(HG.out.trans g6.out).size;have x3:=C0.out _ (qgj p6.out);dsimp only at x3;have Q3:a7.length<=100:=by omega
          clear x3;by_cases u7:0<a7.length
          ·have N3:(0:Int)<(a7.length:Int):=by omega
           rw[show decide (0<a7.length)=true by simpa using u7] at b6;simp only[Bool.true_and] at b6;obtain⟨lb,lc,el,-,u9⟩:=s9.out.cell;cases el;obtain⟨LB,lo,rfl,-,-,-,u9⟩:=u9 (by intro e;rw[e] at u7;simp at u7);obtain⟨r,x,p4,S3,D5⟩:=u9 (a7.length - 1) (by omega);have q7:q6p a7=r:=by unfold q6p;rw[p4];rfl
           have D7:=(s8.out.2 _ (qgj p6.out)).1 r (qgj p4);obtain⟨x2,-⟩:=v4.out r D7;obtain⟨rb,rc,rfl,-,l5⟩:=D5.cell;obtain⟨QB,qo,rfl,-,-,-,l5⟩:=l5 x2;have z9:0<r.length:=qkg.2 x2;have l5:=l5 0 z9;rw[Nat.add_zero] at l5;have l4:=l4;rw[Nat.add_zero] at l4;rw[q7] at b6;rw[show r[0]?.getD 0=Ju r from rfl] at l5;have M4:(0:Int)<(r.length:Int):=by omega
           have S1:IntKind.i64.wrap ((a7.length:Int) - 1)=(a7.length:Int) - 1:=qgH _ (by omega);have hnt:((a7.length:Int) - 1).toNat=a7.length - 1:=by omega
           have Q7:(0:Int)<=(a7.length:Int) - 1:=by omega
           have Q5:(a7.length:Int) - 1<(a7.length:Int):=by omega
           generalize Ju r=hr at l5 b6;clear u9 q7 D7 D5;by_cases hle:hs<=hr
           ·have hok:okF (a7,a8) s=false:=by rw[b6.out];simp[hle]
            have b8:=qg4 hok;clear hok;go_upto_region 25 with(fail);go_quiet (first | (go_at_call 123;refine qii ((e6.out _ (qi _ _ none)).mono (λe w5 h=>⟨h.1,h.2.symm⟩))));go_wp2;exact⟨⟨j+1,by simp,by omega,g6.out.trans (qi _ _ none),e7.out,e8.out,m7.out b8.out _ (qi _ _ none)⟩,by simp[qhj];omega⟩
           ·rw[show decide (hs<=hr)=false by simpa using hle] at b6;simp only[qli,Bool.true_and] at b6;by_cases hz:a8 &&& ms=0
            ·have z3:(((a8 &&& ms:Nat):Int) != 0)=false:=by rw[hz];rfl
             have hok:okF (a7,a8) s=true:=by rw[b6.out];simpa using hz
             have b8:=qg4 hok;have d6:=n9.out;clear hz hok;go_upto_region 25 with(fail);go_quiet (first | (go_at_call 123;refine qii ((e6.out _ (qi _ _ none)).mono (λe w5 h=>⟨h.1,h.2.symm⟩))));go_upto_region 26 with(fail);have m3:=qi wr nq none;have z4:wr.heap.size=(wr.drewN nq).heap.size:=rfl;generalize wr.drewN nq=wa at m3 z4 ⊢;have l9:wr.grownBy wa.drew none:=m3.trans (qc wa none);have l6:=blk l9 (by simp) e7.out;have s0:wa.drew.cell? ⟨Pb,0,none⟩=some (.slice (some ⟨LB,lo,none⟩) a7.length pc)/\wa.drew.cell? ⟨Pb,1,none⟩=some (.int .u8 (a8:Nat)):=⟨q8 l6 rfl,q8 l6 rfl⟩;have p8:=s0.1;have p7:=s0.2;obtain⟨C,n1,n2,n3⟩:=n7.out;obtain⟨oa,om,oc,eo⟩:=zG n1;subst eo;have C6:=qg4 l9;have d5:=qg4 n1;have t5:=qg4 n2;have t4:=qg4 n3;have hor:=L4.out;have E1:(a7.length:Int)<=(pc:Int):=by omega
             have E4:(0:Int)<=(a7.length:Int):=by omega
             have B5:(jt S (recs.take k)++((S.take j).filter (okF (a7,a8))).map (QC (a7,a8))).length<=20000:=by
              have h1:=q0f S (recs.take k);have h2:=qj4 (okF (a7,a8)) (S.take j);have h3:(recs.take k).length*S.length<=1000*12:=Nat.mul_le_mul (by rw[qiE];omega) s1;rw[qhe,qjb];rw[qiE] at h2;omega
             generalize s3:(jt S (recs.take k)++((S.take j).filter (okF (a7,a8))).map (QC (a7,a8)))=RR at d5 t5 t4 B5;have B9:=qg4 s3;have hlo:wo.heap.size<=wa.heap.size:=by have:=g6.out.size;omega
             clear m3 l9 l6 n1 n2 n3 s3;refine zf 21 (λw'=>w'.cell? ⟨Pb,0,none⟩=some (.slice (some ⟨LB,lo,none⟩) a7.length pc)/\w'.cell? ⟨Pb,1,none⟩=some (.int .u8 (a8:Nat))) (by kernel_rfl) (by kernel_rfl) s0 (λa6=>?_);simp only[qgq,qgx,qgG,qil,qgz,qhl,qhm,qhA,qhb,qgD];refine tk 0 ?_;try go_frame
             refine tk 1 ?_;try go_frame
             refine tk 2 ?_;try go_frame
             refine tk 3 ?_;try go_frame
             refine tk 4 ?_;try go_frame
             refine tk 5 ?_;try go_frame
             refine tk 6 ?_;try go_frame
             refine tk 7 ?_;try go_frame
             refine tk 8 ?_;try go_frame
             refine tk 9 ?_;try go_frame
             refine tk 10 ?_;try go_frame
             refine tk 13 ?_;try go_frame
             refine tk 14 ?_;try go_frame
             refine tk 15 ?_;try go_frame
             refine rdy [11] ?_;refine cns 11 (λK hK=>?_) ?_
             ·skip;go_simp;refine hK.out _ _ (by first | exact a6 | exact s7 | exact s2 | exact⟨(qg6 _ _ none).cell a6.1 (by simp),(qg6 _ _ none).cell a6.2 (by simp)⟩) (λa6=>?_);clear hK K;try go_frame
              refine rdy [12] ?_;refine cns 12 (λK hK=>?_) ?_
              ·skip;have hgb:wr.grownBy (wa.drew.alloc (.cells #[.slice (some ⟨XB,xo,none⟩) s.length xc] 29)) none:=C6.out.trans (qg6 _ _ none);refine Yf rfl (.tmp 105) (.tmp 107) rfl (nc:=pc) (B:=wa.heap.size) (y:=.slice (some ⟨XB,xo,none⟩) s.length xc) (l:=s) (by rfl) (by rfl) ((s9.out.kept hgb (by simp)).mono (qg9 _) hgb.size) (jh wa.drew _ _ _) ((H4.out.kept hgb (by simp)).mono (qh1 _) (qgi w8 hgb.size)) (by omega) (λg cap w2 q2 q3 q5=>?_);have hg2:=hgb.trans q2;have s2:w2.cell? ⟨Pb,0,none⟩=some (.slice (some ⟨LB,lo,none⟩) a7.length pc)/\w2.cell? ⟨Pb,1,none⟩=some (.int .u8 (a8:Nat)):=⟨q2.cell ((qg6 wa.drew _ none).cell p8 (by simp)) (by simp),q2.cell ((qg6 wa.drew _ none).cell p7 (by simp)) (by simp)⟩;have d8:=qg4 hg2;have C2:=qg4 q3;have C1:=qg4 q5;have M9:wa.heap.size<=w2.heap.size:=by have:=hg2.size;omega
               clear hgb q2 q3 q5 hg2;refine hK.out _ _ (by first | exact a6 | exact s7 | exact s2 | exact⟨(qg6 _ _ none).cell a6.1 (by simp),(qg6 _ _ none).cell a6.2 (by simp)⟩) (λa6=>?_);clear hK K;try go_frame
               refine rdy [16] ?_;refine cns 16 (λK hK=>?_) ?_
               ·skip;go_simp;go_at_call 123;refine(e6.out w2 d8.out).mono ?_;rintro e w3 ⟨rfl,rfl⟩;refine hK.out _ _ (by first | exact a6 | exact s7 | exact s2 | exact⟨(qg6 _ _ none).cell a6.1 (by simp),(qg6 _ _ none).cell a6.2 (by simp)⟩) (λa6=>?_);clear hK K;try go_frame
                refine tk 17 ?_;try go_frame
                refine tk 18 ?_;try go_frame
                refine rdy [19] ?_;refine cns 19 (λK hK=>?_) ?_
                ·skip;go_simp;refine hK.out _ _ (by first | exact a6 | exact s7 | exact s2 | exact⟨(qg6 _ _ none).cell a6.1 (by simp),(qg6 _ _ none).cell a6.2 (by simp)⟩) (λa6=>?_);clear hK K;try go_frame
                 refine rdy [20] ?_;refine cns 20 (λK hK=>?_) ?_
                 ·skip;have s4:=jM (C:=w2) d5.out (λg e=>d8.out.block g (d5.out.lt g e).2 (by simp));refine step_append_lies _ (by rfl) _ _ _ (by rfl) wo.heap.size 133 i0 _ 2 32 Tp.und134 E8 D1 D0 C9 rfl (by omega) (.slice oa om oc) RR.length (ZY C) (by rfl) (by exact s4.alloc _) ⟨w2.heap.size,0,none⟩ 1 1 [.slice (some ⟨g,0,none⟩) (a7.length+1) cap,.int .u8 ((a8 ||| ms:Nat):Int)] (by rfl) (by rfl) (qhx (cs:=#[.slice (some ⟨g,0,none⟩) (a7.length+1) cap,.int .u8 ((a8 ||| ms:Nat):Int)]) (t:=133) (fr:=(0,0)) (qgg w2 _)) (by simp[qid]) (by omega) (by unfold qk9;omega) (by omega) (by simp;omega) (w2.heap.size+1) (by simp) ?_;intro g' cp w7 d9 a9 k0 r5;have h6:(w2.alloc (.cells #[.slice (some ⟨g,0,none⟩) (a7.length+1) cap,.int .u8 ((a8 ||| ms:Nat):Int)] 133)).grownBy w7 (qh7 oa om oc).ownBlock:=⟨a9.os,a9.tape,a9.output,a9.size,a9.block⟩;have d7:=d8.out.trans (qg6 w2 (.cells #[.slice (some ⟨g,0,none⟩) (a7.length+1) cap,.int .u8 ((a8 ||| ms:Nat):Int)] 133) none);have g5:wr.grownBy w7 (qh7 oa om oc).ownBlock:=(d7.but _).trans h6;have b7:=blk g5 (λe=>e8.out _ e.symm rfl) e7.out;have s7:w7.cell? ⟨Pb,0,none⟩=some (.slice (some ⟨LB,lo,none⟩) a7.length pc)/\w7.cell? ⟨Pb,1,none⟩=some (.int .u8 (a8:Nat)):=⟨q8 b7 rfl,q8 b7 rfl⟩;have m6:=jM (C:=w2.alloc (.cells #[.slice (some ⟨g,0,none⟩) (a7.length+1) cap,.int .u8 ((a8 ||| ms:Nat):Int)] 133)) d5.out (λg e=>d7.block g (d5.out.lt g e).2 (by simp));have g8:vN (w2.alloc (.cells #[.slice (some ⟨g,0,none⟩) (a7.length+1) cap,.int .u8 ((a8 ||| ms:Nat):Int)] 133)) (.slice (some ⟨g,0,none⟩) (a7.length+1) cap) (.int .u8 ((a8 ||| ms:Nat):Int)) (a7++[s],a8 ||| ms):=⟨(C2.out.kept (qg6 w2 _ none) (by simp)).mono (qg9 _) (qg6 w2 _ none).size,rfl,λa n c e=>by cases e;exact C1.out⟩;have h8:=jG.push m6 t5.out (λi p x e1 e2=>(t4.out i p x e1 e2).kept d7) h6 d9 (g8.app m6 h6);have t3:=qg4 h8;have g7:=qg4 g5;have C4:=qg4 b7;have C8:=qg4 k0;clear d9 a9 k0 r5 h6 d7 g5 b7 s4 m6 g8 h8;refine hK.out _ _ (by first | exact a6 | exact s7 | exact s2 | exact⟨(qg6 _ _ none).cell a6.1 (by simp),(qg6 _ _ none).cell a6.2 (by simp)⟩) (λa6=>?_);clear hK K;try go_frame
                  refine⟨by kernel_rfl,?_⟩;simp only[qhE,qiu];clear s0 p8 p7 s2 s7 a6;go_wp2;refine⟨⟨j+1,by simp,by omega,g6.out.andThen g7.out (λi e=>.inl (d5.out.lt i e).1),C4.out,λi e=>?_,?_⟩,by simp[qhj];omega⟩
                  ·obtain rfl:g'=i:=by simpa[qh3] using e
                   rcases C8.out with h | h
                   ·exact e8.out _ h
                   ·have:=d8.out.size;omega
                  ·rw[t8.out,if_pos b8.out,qij,<- qie,B9.out,show List.map (QC (a7,a8)) [s]=[QC (a7,a8) s] from rfl,z0.out];exact t3.out
                 exact qm.nil
                exact qm.nil
               exact qm.nil
              exact qm.nil
             exact qm.nil
            ·have z3:(((a8 &&& ms:Nat):Int) != 0)=true:=by simpa using hz
             have hok:okF (a7,a8) s=false:=by rw[b6.out];simpa using hz
             have b8:=qg4 hok;have d6:=n9.out;clear hz hok;go_upto_region 25 with(fail);go_quiet (first | (go_at_call 123;refine qii ((e6.out _ (qi _ _ none)).mono (λe w5 h=>⟨h.1,h.2.symm⟩))));go_wp2;exact⟨⟨j+1,by simp,by omega,g6.out.trans (qi _ _ none),e7.out,e8.out,m7.out b8.out _ (qi _ _ none)⟩,by simp[qhj];omega⟩
          ·have N3:¬ (0:Int)<(a7.length:Int):=by omega
           rw[show decide (0<a7.length)=false by simpa using u7] at b6;simp only[Bool.false_and,qli,Bool.true_and] at b6;by_cases hz:a8 &&& ms=0
           ·have z3:(((a8 &&& ms:Nat):Int) != 0)=false:=by rw[hz];rfl
            have hok:okF (a7,a8) s=true:=by rw[b6.out];simpa using hz
            have b8:=qg4 hok;have d6:=n9.out;clear hz hok;go_upto_region 25 with(fail);go_quiet (first | (go_at_call 123;refine qii ((e6.out _ (qi _ _ none)).mono (λe w5 h=>⟨h.1,h.2.symm⟩))));go_upto_region 26 with(fail);have m3:=qi wr nq none;have z4:wr.heap.size=(wr.drewN nq).heap.size:=rfl;generalize wr.drewN nq=wa at m3 z4 ⊢;have l9:wr.grownBy wa.drew none:=m3.trans (qc wa none);have l6:=blk l9 (by simp) e7.out;have s0:wa.drew.cell? ⟨Pb,0,none⟩=some (.slice pa a7.length pc)/\wa.drew.cell? ⟨Pb,1,none⟩=some (.int .u8 (a8:Nat)):=⟨q8 l6 rfl,q8 l6 rfl⟩;have p8:=s0.1;have p7:=s0.2;obtain⟨C,n1,n2,n3⟩:=n7.out;obtain⟨oa,om,oc,eo⟩:=zG n1;subst eo;have C6:=qg4 l9;have d5:=qg4 n1;have t5:=qg4 n2;have t4:=qg4 n3;have hor:=L4.out;have E1:(a7.length:Int)<=(pc:Int):=by omega
            have E4:(0:Int)<=(a7.length:Int):=by omega
            have B5:(jt S (recs.take k)++((S.take j).filter (okF (a7,a8))).map (QC (a7,a8))).length<=20000:=by
             have h1:=q0f S (recs.take k);have h2:=qj4 (okF (a7,a8)) (S.take j);have h3:(recs.take k).length*S.length<=1000*12:=Nat.mul_le_mul (by rw[qiE];omega) s1;rw[qhe,qjb];rw[qiE] at h2;omega
            generalize s3:(jt S (recs.take k)++((S.take j).filter (okF (a7,a8))).map (QC (a7,a8)))=RR at d5 t5 t4 B5;have B9:=qg4 s3;have hlo:wo.heap.size<=wa.heap.size:=by have:=g6.out.size;omega
            clear m3 l9 l6 n1 n2 n3 s3;refine zf 21 (λw'=>w'.cell? ⟨Pb,0,none⟩=some (.slice pa a7.length pc)/\w'.cell? ⟨Pb,1,none⟩=some (.int .u8 (a8:Nat))) (by kernel_rfl) (by kernel_rfl) s0 (λa6=>?_);simp only[qgq,qgx,qgG,qil,qgz,qhl,qhm,qhA,qhb,qgD];refine tk 0 ?_;try go_frame
            refine tk 1 ?_;try go_frame
            refine tk 2 ?_;try go_frame
            refine tk 3 ?_;try go_frame
            refine tk 4 ?_;try go_frame
            refine tk 5 ?_;try go_frame
            refine tk 6 ?_;try go_frame
            refine tk 7 ?_;try go_frame
            refine tk 8 ?_;try go_frame
            refine tk 9 ?_;try go_frame
            refine tk 10 ?_;try go_frame
            refine tk 13 ?_;try go_frame
            refine tk 14 ?_;try go_frame
            refine tk 15 ?_;try go_frame
            refine rdy [11] ?_;refine cns 11 (λK hK=>?_) ?_
            ·skip;go_simp;refine hK.out _ _ (by first | exact a6 | exact s7 | exact s2 | exact⟨(qg6 _ _ none).cell a6.1 (by simp),(qg6 _ _ none).cell a6.2 (by simp)⟩) (λa6=>?_);clear hK K;try go_frame
             refine rdy [12] ?_;refine cns 12 (λK hK=>?_) ?_
             ·skip;have hgb:wr.grownBy (wa.drew.alloc (.cells #[.slice (some ⟨XB,xo,none⟩) s.length xc] 29)) none:=C6.out.trans (qg6 _ _ none);refine Yf rfl (.tmp 105) (.tmp 107) rfl (nc:=pc) (B:=wa.heap.size) (y:=.slice (some ⟨XB,xo,none⟩) s.length xc) (l:=s) (by rfl) (by rfl) ((s9.out.kept hgb (by simp)).mono (qg9 _) hgb.size) (jh wa.drew _ _ _) ((H4.out.kept hgb (by simp)).mono (qh1 _) (qgi w8 hgb.size)) (by omega) (λg cap w2 q2 q3 q5=>?_);have hg2:=hgb.trans q2;have s2:w2.cell? ⟨Pb,0,none⟩=some (.slice pa a7.length pc)/\w2.cell? ⟨Pb,1,none⟩=some (.int .u8 (a8:Nat)):=⟨q2.cell ((qg6 wa.drew _ none).cell p8 (by simp)) (by simp),q2.cell ((qg6 wa.drew _ none).cell p7 (by simp)) (by simp)⟩;have d8:=qg4 hg2;have C2:=qg4 q3;have C1:=qg4 q5;have M9:wa.heap.size<=w2.heap.size:=by have:=hg2.size;omega
              clear hgb q2 q3 q5 hg2;refine hK.out _ _ (by first | exact a6 | exact s7 | exact s2 | exact⟨(qg6 _ _ none).cell a6.1 (by simp),(qg6 _ _ none).cell a6.2 (by simp)⟩) (λa6=>?_);clear hK K;try go_frame
              refine rdy [16] ?_;refine cns 16 (λK hK=>?_) ?_
              ·skip;go_simp;go_at_call 123;refine(e6.out w2 d8.out).mono ?_;rintro e w3 ⟨rfl,rfl⟩;refine hK.out _ _ (by first | exact a6 | exact s7 | exact s2 | exact⟨(qg6 _ _ none).cell a6.1 (by simp),(qg6 _ _ none).cell a6.2 (by simp)⟩) (λa6=>?_);clear hK K;try go_frame
               refine tk 17 ?_;try go_frame
               refine tk 18 ?_;try go_frame
               refine rdy [19] ?_;refine cns 19 (λK hK=>?_) ?_
               ·skip;go_simp;refine hK.out _ _ (by first | exact a6 | exact s7 | exact s2 | exact⟨(qg6 _ _ none).cell a6.1 (by simp),(qg6 _ _ none).cell a6.2 (by simp)⟩) (λa6=>?_);clear hK K;try go_frame
                refine rdy [20] ?_;refine cns 20 (λK hK=>?_) ?_
                ·skip;have s4:=jM (C:=w2) d5.out (λg e=>d8.out.block g (d5.out.lt g e).2 (by simp));refine step_append_lies _ (by rfl) _ _ _ (by rfl) wo.heap.size 133 i0 _ 2 32 Tp.und134 E8 D1 D0 C9 rfl (by omega) (.slice oa om oc) RR.length (ZY C) (by rfl) (by exact s4.alloc _) ⟨w2.heap.size,0,none⟩ 1 1 [.slice (some ⟨g,0,none⟩) (a7.length+1) cap,.int .u8 ((a8 ||| ms:Nat):Int)] (by rfl) (by rfl) (qhx (cs:=#[.slice (some ⟨g,0,none⟩) (a7.length+1) cap,.int .u8 ((a8 ||| ms:Nat):Int)]) (t:=133) (fr:=(0,0)) (qgg w2 _)) (by simp[qid]) (by omega) (by unfold qk9;omega) (by omega) (by simp;omega) (w2.heap.size+1) (by simp) ?_;intro g' cp w7 d9 a9 k0 r5;have h6:(w2.alloc (.cells #[.slice (some ⟨g,0,none⟩) (a7.length+1) cap,.int .u8 ((a8 ||| ms:Nat):Int)] 133)).grownBy w7 (qh7 oa om oc).ownBlock:=⟨a9.os,a9.tape,a9.output,a9.size,a9.block⟩;have d7:=d8.out.trans (qg6 w2 (.cells #[.slice (some ⟨g,0,none⟩) (a7.length+1) cap,.int .u8 ((a8 ||| ms:Nat):Int)] 133) none);have g5:wr.grownBy w7 (qh7 oa om oc).ownBlock:=(d7.but _).trans h6;have b7:=blk g5 (λe=>e8.out _ e.symm rfl) e7.out;have s7:w7.cell? ⟨Pb,0,none⟩=some (.slice pa a7.length pc)/\w7.cell? ⟨Pb,1,none⟩=some (.int .u8 (a8:Nat)):=⟨q8 b7 rfl,q8 b7 rfl⟩;have m6:=jM (C:=w2.alloc (.cells #[.slice (some ⟨g,0,none⟩) (a7.length+1) cap,.int .u8 ((a8 ||| ms:Nat):Int)] 133)) d5.out (λg e=>d7.block g (d5.out.lt g e).2 (by simp));have g8:vN (w2.alloc (.cells #[.slice (some ⟨g,0,none⟩) (a7.length+1) cap,.int .u8 ((a8 ||| ms:Nat):Int)] 133)) (.slice (some ⟨g,0,none⟩) (a7.length+1) cap) (.int .u8 ((a8 ||| ms:Nat):Int)) (a7++[s],a8 ||| ms):=⟨(C2.out.kept (qg6 w2 _ none) (by simp)).mono (qg9 _) (qg6 w2 _ none).size,rfl,λa n c e=>by cases e;exact C1.out⟩;have h8:=jG.push m6 t5.out (λi p x e1 e2=>(t4.out i p x e1 e2).kept d7) h6 d9 (g8.app m6 h6);have t3:=qg4 h8;have g7:=qg4 g5;have C4:=qg4 b7;have C8:=qg4 k0;clear d9 a9 k0 r5 h6 d7 g5 b7 s4 m6 g8 h8;refine hK.out _ _ (by first | exact a6 | exact s7 | exact s2 | exact⟨(qg6 _ _ none).cell a6.1 (by simp),(qg6 _ _ none).cell a6.2 (by simp)⟩) (λa6=>?_);clear hK K;try go_frame
                 refine⟨by kernel_rfl,?_⟩;simp only[qhE,qiu];clear s0 p8 p7 s2 s7 a6;go_wp2;refine⟨⟨j+1,by simp,by omega,g6.out.andThen g7.out (λi e=>.inl (d5.out.lt i e).1),C4.out,λi e=>?_,?_⟩,by simp[qhj];omega⟩
                 ·obtain rfl:g'=i:=by simpa[qh3] using e
                  rcases C8.out with h | h
                  ·exact e8.out _ h
                  ·have:=d8.out.size;omega
                 ·rw[t8.out,if_pos b8.out,qij,<- qie,B9.out,show List.map (QC (a7,a8)) [s]=[QC (a7,a8) s] from rfl,z0.out];exact t3.out
                exact qm.nil
               exact qm.nil
              exact qm.nil
             exact qm.nil
            exact qm.nil
           ·have z3:(((a8 &&& ms:Nat):Int) != 0)=true:=by simpa using hz
            have hok:okF (a7,a8) s=false:=by rw[b6.out];simpa using hz
            have b8:=qg4 hok;have d6:=n9.out;clear hz hok;go_upto_region 25 with(fail);go_quiet (first | (go_at_call 123;refine qii ((e6.out _ (qi _ _ none)).mono (λe w5 h=>⟨h.1,h.2.symm⟩))));go_wp2;exact⟨⟨j+1,by simp,by omega,g6.out.trans (qi _ _ none),e7.out,e8.out,m7.out b8.out _ (qi _ _ none)⟩,by simp[qhj];omega⟩
         ·obtain rfl:j=S.length:=by omega
          have S5:¬ (S.length:Int)<(S.length:Int):=by omega
          clear l8;go_wp2;refine⟨⟨k+1,by simp,by omega,λq hq=>?_,g6.out,?_⟩,by simp[qhj];omega⟩
          ·rw[qhd,p6.out] at hq;rcases qiD.1 hq with h | h
           ·exact C5.out q h
           ·simp at h;subst h;exact P5.out
          ·rw[q56 p6.out];have:=n7.out;rw[qha] at this;exact this
      ·obtain rfl:k=recs.length:=by omega
       have hnt:(recs.find? λp=>p.2 == al)=none:=List.find?_eq_none.2 λp hp=>by have:=C5.out p (by rw[qha];exact hp);simpa using this
       have c8:=x8.out;rw[hnt] at c8;have E7:(jt S recs).length<=1000:=by
        refine qhG λh=>?_;simp only[if_neg h] at c8;cases c8
       simp only[if_pos E7] at c8;have hne:jt S recs≠[]:=λh=>by
        rw[if_pos h] at c8;cases c8
       rw[if_neg hne] at c8;have l7:=v7.out;rw[qha] at l7;have G2:∀W v,Qj W v (jt S recs)->q5E S al R v W n:=λW v hr=>by
        refine⟨_,hr,⟨E7,λq hq=>?_⟩,λq hq=>?_,c8⟩
        ·obtain⟨p,hp,s,hs,rfl⟩:=q0n hq;have h1:=(s8.out.2 p hp);have h2:=C0.out p hp;have h3:=Qs s 5 λy hy=>by have:=(v4.out s hs).2 y hy;omega
         refine⟨λr hr=>?_,Nat.or_lt_two_pow (n:=5) h1.2.1 h3,by simp[QC];omega⟩;rcases qiD.1 hr with h | h
         ·exact h1.1 r h
         ·rw[qj2.1 h];exact hs
        ·obtain⟨p,hp,s,hs,rfl⟩:=q0n hq;have h2:=C0.out p hp;simp[QC];omega
       have E2:=G2 wr u11 l7.recs;obtain⟨xb,xc,hx,-⟩:=l7.recs;have hxl:(jt S recs).length≠0:=λh=>hne (qhC h);generalize (jt S recs).length=xl at hx hxl;subst hx;have L3:=qg4 E2;have R9:((xl:Int) == 0)=false:=by rw[beq_eq_false_iff_ne];omega
       clear E2 G2 c8 l7 hne;go_wp2;exact⟨⟨⟨n,by omega,L3.out⟩,HG.out.trans t6.out⟩,Nat.lt_of_le_of_lt (q2G (by omega) L3.out) (by rw[<- P7.out];omega)⟩
end
section
open Go Go.RowKit Go.Co
theorem yI{n:Int}(h:0<=n/\n<=30):YOk (ze n) 6:=⟨by simp[ze],λp hp=>by
 simp only[ze,qhH,qif,or_false] at hp;rcases hp with rfl | rfl | rfl | rfl<;>(dsimp only;omega),by omega,by omega⟩
theorem vf(n:Int):(ze n).length=4:=rfl
theorem q2n(n:Int):∀(x:List Int),(∀y∈x,0<=y/\y<4)->∀a:Int,(x.map (vQ (ze n))).foldl (·+·) a=a+(2*(x.count 0:Int)+2*(x.count 1:Int)+(x.count 2:Int)+(x.count 3:Int))
 | [],_,a=>by simp
 | y::t,h,a=>by
  have ih:=q2n n t (λz hz=>h z (by simp[hz]));have hy:=h y (by simp);simp only[qkm,List.foldl_cons];rw[ih];obtain rfl | rfl | rfl | rfl:y=0\/y=1\/y=2\/y=3:=by omega
  all_goals simp[qoj,vQ,ze];try omega
theorem ZJ{x:List Int}(h:x.Nodup)(a:Int):x.count a<=1:=by
 induction x with
 | nil=>simp
 | cons y t ih=>
  rw[List.nodup_cons] at h;rw[qoj];by_cases e:y=a
  ·subst e;have:=List.count_eq_zero.2 h.1;simp[this]
  ·simp[e];exact ih h.2
theorem JZ{n:Int}(x:List Int)(hn:x.Nodup)(hx:∀y∈x,0<=y/\y<(ze n).length):POk (ze n) 6 x:=by
 have h4:∀y∈x,0<=y/\y<4:=λy hy=>by have:=hx y hy;rw[vf] at this;omega
 have hs:=q2n n x h4 0;have c0:=ZJ hn 0;have c1:=ZJ hn 1;have c2:=ZJ hn 2;have c3:=ZJ hn 3;refine⟨hx,hn,?_,?_⟩
 ·unfold qZ;rw[hs];omega
 ·have key:∀(x:List Int),(∀y∈x,0<=y/\y<4)->x.length=x.count 0+x.count 1+x.count 2+x.count 3:=by
   intro x;induction x with
   | nil=>simp
   | cons y t ih=>
    intro h;have:=ih (λz hz=>h z (by simp[hz]));have hy:=h y (by simp);obtain rfl | rfl | rfl | rfl:y=0\/y=1\/y=2\/y=3:=by omega
    all_goals simp[qoj];omega
  have:=key x h4;omega
theorem JU(n:Int):POk (ze n) 6 [0,1,2]:=JZ _ (by decide) (by simp[vf])
theorem qcf(n:Int):POk (ze n) 6 [2,1,0]:=JZ _ (by decide) (by simp[vf])
theorem qaE:yA (ze 12) [0,1,2]=[(6,9),(2,3),(0,0)]:=by kernel_rfl
theorem q87:q1a (ze 8) [0,1,2]=3:=by kernel_rfl
theorem qaD:Z0 (ze 8) [0,1,2]=.tuple #[.agg #[.int .i64 (-1),.int .i64 2],.int .i64 0]:=by kernel_rfl
theorem qcE:q0m (ze 12) 6 3 10 [zO [2,1,0]] [zO [2,1,0]] 0=some (some (3,[0,1,2])):=by kernel_rfl
theorem qcD:(jY (ze 12) 6 (j3 (jA (ze 12).length) 0)).2=[0,1,2]:=by kernel_rfl
theorem q89:vD (ze 8) (j3 (jA (ze 8).length) 0)=[[0],[1],[2],[3],[0,1],[0,2],[0,3],[1,2],[1,3]]:=by kernel_rfl
def exS:List (List Int):=[[0],[1],[2],[3],[0,1],[0,2],[0,3],[1,2],[1,3]]
theorem qeo:qav 10 (zE exS.length exS) (zu (jA (ze 8).length)) [([],0)]=some (some [[0,2],[1,3]]):=by kernel_rfl
theorem q88:∀s∈zE exS.length exS,s≠[]/\∀x∈s,0<=x/\x<5:=by decide
def K8(ps:List Par)(l wl:List Int):Bool:=(qgB (q5y ps wl)).any λi=>qp ps (ovr (ZK ps wl i) (pre Par.mn ps ps.length) wl wl.length) l && !qp ps (ovr (ZK ps wl i) (pre Par.mx ps ps.length) wl wl.length) l
theorem q3C(ps:List Par)(l wl:List Int):K8 ps l wl=true↔Qf ps l wl:=by
 unfold K8 Qf;rw[List.any_eq_true];constructor
 ·rintro⟨i,h1,h2⟩;exact⟨i,qi4.1 h1,h2⟩
 ·rintro⟨i,h1,h2⟩;exact⟨i,qi4.2 h1,h2⟩
theorem q98(ps:List Par)(l c:List Int):jI ps l c=!K8 ps l c:=q2q (q3C ps l c)
theorem qaC:zU (jI (ze 8) [0,1,2]) (j3 [0,1,2] 0) []=(true,[1,2]):=by
 have e:jI (ze 8) [0,1,2]=λc=>!K8 (ze 8) [0,1,2] c:=funext λc=>q98 _ _ _;have h:zU (λc=>!K8 (ze 8) [0,1,2] c) (j3 [0,1,2] 0) []=(true,[1,2]):=by kernel_rfl
 exact(congrArg (λp=>zU p (j3 [0,1,2] 0) []) e).trans h
end
section
open Go.RowKit
theorem yp(n:Int)(w:qg7):qhf Tp.prog 80 #[.int .i64 n] w λe w'=>∃v,e=.returned (.agg #[v,.int .i64 6])/\w.grownBy w' none/\qr w.heap.size w'.heap.size w' v (ze n)/\∀(ad:qho) (m c:Nat),v=.slice (some ad) m c->∃cs e f,w'.heap[ad.block]?=some (.cells cs e f)/\∀(i:Nat) u,cs[i]?=some u->∃k m,u=.int k m:=by
 obtain⟨A,hA⟩:∃A,A=w.heap.size:=⟨_,rfl⟩;obtain⟨w1,a6⟩:∃w1,w1=w.alloc (.cells #[.slice none 0 0,.int .i64 0] 24):=⟨_,rfl⟩;have hR:w1.heap[A]?=some (.cells #[.slice none 0 0,.int .i64 0] 24 (0,0)):=by rw[a6,hA];exact qgg w _
 have hG:w.grownBy w1 none:=by rw[a6];exact qg6 _ _ none
 have HA:=qg4 hA;have b8:=qg4 a6;have HR:=qg4 hR;have HG:=qg4 hG;clear hA a6 hR hG;go_enter Tp.x80,Tryz.ntmps80;go_upto_region 1 with(fail);rw[<- HA.out,show w.alloc (.cells #[.slice none 0 0,.int .i64 0] 24)=w1 from b8.out.symm];have HT:=qg4 (qgn w1 none);have s0:=q8 (o:=0) HR.out rfl;have s1:=q8 (o:=1) HR.out rfl;have f0:=qn (o:=0) HR.out;have f1:=qn (o:=1) HR.out;have b7:=(qg8.1 HR.out).1;go_wp2_with (first
  | (go_at_call 39;go_must (refine(q53 _ _ _ _ _).mono ?_);rintro e w2 ⟨rfl,hg⟩;replace HT:=qg4 (HT.out.trans hg);replace s0:=q8 (o:=0) (blk HT.out (by simp) HR.out) rfl;replace s1:=q8 (o:=1) (blk HT.out (by simp) HR.out) rfl;replace f0:=qn (o:=0) (blk HT.out (by simp) HR.out);replace f1:=qn (o:=1) (blk HT.out (by simp) HR.out);replace b7:=(qg8.1 (blk HT.out (by simp) HR.out)).1;clear hg))
 obtain⟨cs,hcs⟩:∃cs:Array qgb,cs=#[.int .i64 8,.int .i64 10,.int .i64 n,.int .i64 2,.int .i64 4,.int .i64 6,.int .i64 6,.int .i64 2,.int .i64 2,.int .i64 3,.int .i64 3,.int .i64 1,.int .i64 5,.int .i64 5,.int .i64 0,.int .i64 1]:=⟨_,rfl⟩;obtain⟨W,a7⟩:∃W,W=((w2.setCell ⟨A,0,none⟩ (.slice (some ⟨w2.heap.size,0,none⟩) 4 4)).setCell ⟨A,1,none⟩ (.int .i64 6)).alloc (.cells cs 28):=⟨_,rfl⟩;have hz:((w2.setCell ⟨A,0,none⟩ (.slice (some ⟨w2.heap.size,0,none⟩) 4 4)).setCell ⟨A,1,none⟩ (.int .i64 6)).heap.size=w2.heap.size:=by simp[qix]
 have b0:W.heap[A]?=some (.cells #[.slice (some ⟨w2.heap.size,0,none⟩) 4 4,.int .i64 6] 24 (0,0)):=by rw[a7];exact qq (by rw[qh (qh (blk HT.out (by simp) HR.out))];rfl)
 have a8:W.heap[w2.heap.size]?=some (.cells cs 28 (0,0)):=by
  have:=qgg ((w2.setCell ⟨A,0,none⟩ (.slice (some ⟨w2.heap.size,0,none⟩) 4 4)).setCell ⟨A,1,none⟩ (.int .i64 6)) (.cells cs 28);rw[hz,<- a7] at this;exact this
 have hA:=HA.out;have b6:w.grownBy W none:=((HG.out.trans HT.out).andThen (row':=some A) ((qf _ _ _ _).trans (qf _ _ _ _)) (by rintro j e;cases e;exact .inl (by omega))).trans (by rw[a7];exact qg6 _ _ _);have hsz:=(HG.out.trans HT.out).size;have a9:w2.heap.size<W.heap.size:=(qg8.1 a8).1;rw[<- hcs,<- a7];refine qji (v:=.agg #[.slice (some ⟨w2.heap.size,0,none⟩) 4 4,.int .i64 6]) (by simp[qjo,Tryz.results80,go_sem,qh6,b0]) rfl ⟨_,rfl,b6,⟨some ⟨w2.heap.size,0,none⟩,4,rfl,by simp[ze],λ_=>⟨w2.heap.size,0,cs,_,rfl,hsz,a9,a8,λi hi=>?_⟩⟩,λad m c e=>?_⟩;rotate_left
 ·cases e;refine⟨cs,_,_,a8,λi u hu=>?_⟩;rw[hcs] at hu;have hm:=qi5 hu;simp only[qjC,qhH,qif,or_false] at hm;rcases hm with h | h | h | h | h | h | h | h | h | h | h | h | h | h | h | h<;>exact⟨_,_,h⟩
 obtain rfl | rfl | rfl | rfl:i=0\/i=1\/i=2\/i=3:=by simp[ze] at hi;omega
 all_goals
  rw[hcs];exact⟨_,rfl,rfl,rfl,rfl,rfl⟩
end
section
open Go Go.RowKit Go.Co Go.Sim Go.Conc Go.ConcN
theorem Zy{w:qg7}{B:Nat}{cs:Array qgb}{fr:Nat × Nat}(l:List Int)(h:w.heap[B]?=some (.cells cs 3 fr))(hc:cs=(l.map (qgy .i64)).toArray)(hl:(l.length:Int)<=1000000):qe 0 w.heap.size w (.slice (some ⟨B,0,none⟩) l.length l.length) l :=
 ⟨_,_,rfl,hl,λ_=>⟨B,0,cs,fr,rfl,qh1 _,qz h,h,λi hi=>by rw[hc];simp[hi]⟩⟩
theorem jE(w:qg7){cs:Array qgb}(l:List Int)(hc:cs=(l.map (qgy .i64)).toArray)(hl:(l.length:Int)<=1000000):qe 0 (w.alloc (.cells cs 3)).heap.size (w.alloc (.cells cs 3)) (.slice (some ⟨w.heap.size,0,none⟩) l.length l.length) l:=Zy l (qgg w _) hc hl
theorem qe.kn{w u:qg7}{T:Nat->qih->Nat}{v:qgb}{l:List Int}(h:qe 0 w.heap.size w v l)(hg:(w.tp T).grownBy u none):qe 0 u.heap.size u v l:=(qe.kept (w:=w.tp T) h hg (by simp)).mono (qg9 _) hg.size
theorem qN.kn{w u:qg7}{T:Nat->qih->Nat}{v:qgb}{l:List (Int × Int)}(h:qN 0 w.heap.size w v l)(hg:(w.tp T).grownBy u none):qN 0 u.heap.size u v l:=(qN.kept (w:=w.tp T) h hg (by simp)).mono (qg9 _) hg.size
theorem RowsIn.kn{w u:qg7}{T:Nat->qih->Nat}{v:qgb}{l:List (List Int)}(h:RowsIn 0 w.heap.size w v l)(hg:(w.tp T).grownBy u none):RowsIn 0 u.heap.size u v l:=(RowsIn.kept (w:=w.tp T) h hg (by simp)).mono (qg9 _) hg.size
theorem q6z{ps:List Par}{m:Nat}(hm:1<=m)(hk:∀p∈ps,kOf p<=m):∀(wl:List Int) (L:List (Nat->Int)),(wl.foldl (kU ps) L).length<=L.length*m ^ wl.length
 | [],L=>by simp
 | x::wl,L=>by
  have ih:=q6z hm hk wl (kU ps L x);have h1:(kU ps L x).length<=L.length*m:=by
   unfold kU;split
   ·rename_i p hp
    rw[vx];exact Nat.mul_le_mul_left _ (hk p (qgj hp))
   ·exact Nat.le_mul_of_pos_right _ hm
  rw[List.foldl_cons,qgq,Nat.pow_succ];refine qgi ih (qgi (Nat.mul_le_mul_right _ h1) ?_);rw[Nat.mul_assoc,Nat.mul_comm m];exact qg9 _
theorem q6x{ps:List Par}{lim:Int}(h:YOk ps lim){l wl:List Int}(hl:∀y∈l,0<=y/\y<ps.length)(ll:l.length<=1000)(hwl:∀y∈wl,0<=y/\y<ps.length)(w5:wl.length<=5):qbu ps l wl:=by
 refine⟨h.len,λp hp=>?_,hl,ll,hwl,by omega,λj hj=>?_⟩
 ·have:=h.each p hp;omega
 ·have h1:=q6z (ps:=ps) (m:=12) (by omega) (λp hp=>by have:=h.each p hp;unfold kOf;omega) (wl.take j) [λ_=>0];have h2:12 ^ (wl.take j).length<=12 ^ 5:=ql8 (by omega) (by rw[qiE];omega);unfold jq;simp only[qgq,qgx,qgz,Nat.one_mul] at h1;omega
theorem q7x{w:qg7}{B:Nat}{cs:Array qgb}{fr:Nat × Nat}(h:w.heap[B]?=some (.cells cs 26 fr))(hc:cs=#[.int .i64 6,.int .i64 9,.int .i64 2,.int .i64 3,.int .i64 0,.int .i64 0]):qN 0 w.heap.size w (.slice (some ⟨B,0,none⟩) 3 3) [(6,9),(2,3),(0,0)]:=by
 refine⟨_,_,rfl,by decide,λ_=>⟨B,0,cs,fr,rfl,qh1 _,qz h,h,λi hi=>?_⟩⟩;subst hc;have hi:i<3:=hi;obtain rfl | rfl | rfl:i=0\/i=1\/i=2:=by omega
 all_goals exact⟨_,rfl,rfl,rfl⟩
theorem qaf{w:qg7}{B A1 A2:Nat}{fr:Nat × Nat}(h:w.heap[B]?=some (.cells #[.slice (some ⟨A1,0,none⟩) 2 2,.slice (some ⟨A2,0,none⟩) 2 2] 29 fr))(h1:qe 0 w.heap.size w (.slice (some ⟨A1,0,none⟩) 2 2) [0,2])(h2:qe 0 w.heap.size w (.slice (some ⟨A2,0,none⟩) 2 2) [1,3]):RowsIn 0 w.heap.size w (.slice (some ⟨B,0,none⟩) 2 2) [[0,2],[1,3]]:=by
 refine⟨_,_,rfl,by decide,λ_=>⟨B,0,_,fr,rfl,qh1 _,qz h,h,λi hi=>?_⟩⟩;have hi:i<2:=hi;obtain rfl | rfl:i=0\/i=1:=by omega
 ·exact⟨_,_,rfl,rfl,h1⟩
 ·exact⟨_,_,rfl,rfl,h2⟩
theorem q5C(w:qg7):RowsIn 0 (((w.alloc (.cells #[.int .i64 0,.int .i64 2] 3)).alloc (.cells #[.int .i64 1,.int .i64 3] 3)).alloc (.cells #[.slice (some ⟨w.heap.size,0,none⟩) 2 2,.slice (some ⟨w.heap.size+1,0,none⟩) 2 2] 29)).heap.size (((w.alloc (.cells #[.int .i64 0,.int .i64 2] 3)).alloc (.cells #[.int .i64 1,.int .i64 3] 3)).alloc (.cells #[.slice (some ⟨w.heap.size,0,none⟩) 2 2,.slice (some ⟨w.heap.size+1,0,none⟩) 2 2] 29)) (.slice (some ⟨w.heap.size+2,0,none⟩) 2 2) [[0,2],[1,3]]:=by
 refine qaf (A1:=w.heap.size) (A2:=w.heap.size+1) (fr:=(0,0)) ?_ ?_ ?_
 ·have h:=qgg ((w.alloc (.cells #[.int .i64 0,.int .i64 2] 3)).alloc (.cells #[.int .i64 1,.int .i64 3] 3)) (.cells #[.slice (some ⟨w.heap.size,0,none⟩) 2 2,.slice (some ⟨w.heap.size+1,0,none⟩) 2 2] 29);rw[qgk,qgk] at h;exact h
 ·exact Zy [0,2] (qq (qq (qgg w _))) rfl (by decide)
 ·have h:=qgg (w.alloc (.cells #[.int .i64 0,.int .i64 2] 3)) (.cells #[.int .i64 1,.int .i64 3] 3);rw[qgk] at h;exact Zy [1,3] (qq h) rfl (by decide)
theorem j5[JunkSet]{f:qhs}{Post:qgb->qg7->Prop}{W:qg7}{g:qgc}{w:qg7}(F:qg7->Prop)(hF:F w)(h:∀u,F u->EL Tp.prog qgr f Post W g u):EL Tp.prog qgr f Post W g w:=h w hF
section
variable[J:JunkSet]{f:qhs}{Post:qgb->qg7->Prop}{W:qg7}
theorem el23(D:Two Tp.prog qgr)(hok:JunkSet.okf 137)(k5:∀i,¬ JunkSet.jk i)(hin:Tp.prog.inits.idxOf? f=none)(hfs:∃g,Tp.prog.funcs[f]?=some g/\Tryz.prog.funcs[f]?=some g){wq:qg7}(h0:qT wq 0) :EC Tp.prog qgr f Post W 23 #[] wq λv u=>v=.bool true/\(wq.tp u.tape).grownBy u none:=by
 have hs:Tp.prog.funcs[(qgA 23).fn]?=Tryz.prog.funcs[(qgA 23).fn]?:=z6 23 (by decide);refine EC.of_body1 D (fn:=Tryz.f23) (c0:=Tryz.f23.body.getD .skip) (t:=0) Tp.x23 Tryz.func23 (by kernel_rfl) rfl λcs hb b6=>?_;have HR:=qg4 b6;clear b6;simp only[Tryz.f23,qgh];walk_nrm;refine EL.sp D hb hs λT=>?_;go_wp2;refine EL.tape (wq:=wq) ?_ T;refine EL.sp D hb hs λT=>?_;go_wp2_with (first
  | (go_at_call 80;refine(yp 12 _).mono ?_;rintro e w2 ⟨v2,rfl,hg2,a6,a7⟩;have G2:=qg4 hg2;have P2:=qg4 a6;have I2:=qg4 a7;obtain⟨yb,yc,rfl,-,-⟩:=a6.cell;clear hg2 a6 a7)
  | (go_at_call 35;refine(q7w 0 _ _ _ (ze 12) 6 [0,1,2] _ ((P2.out.kept (qg6 _ _ none) (by simp)).mono (qh1 _) (by rw[qgk];omega)) (jE _ [0,1,2] rfl (by decide)) (qg9 _) (yI (by omega)) (JU 12)).mono ?_;rintro e w3 ⟨v3,rfl,a8,b9⟩;rw[qaE] at b9;have G3:=qg4 a8;have B3:=qg4 b9;clear a8 b9))
 have ga:=G2.out.trans ((qg6 _ _ none).trans G3.out);refine j5 (λu=>(wq.tp u.tape).grownBy u none/\qN 0 u.heap.size u v3 [(6,9),(2,3),(0,0)]) ⟨tpg ga,B3.out.mono (qh1 _) (qg9 _)⟩ λu1 hF=>?_;obtain⟨g1,bA⟩:=hF;clear ga B3 G3 G2 P2 I2;refine EL.sp D hb hs λT=>?_;go_wp2_with (first
  | (go_at_call 80;refine(yp 8 _).mono ?_;rintro e w2 ⟨v2,rfl,hg2,a6,a7⟩;have G2:=qg4 hg2;have P2:=qg4 a6;have I2:=qg4 a7;obtain⟨yb,yc,rfl,-,-⟩:=a6.cell;clear hg2 a6 a7)
  | (go_at_call 37;refine(q77 0 _ _ _ (ze 8) 6 [0,1,2] _ ((P2.out.kept (qg6 _ _ none) (by simp)).mono (qh1 _) (by rw[qgk];omega)) (jE _ [0,1,2] rfl (by decide)) (qg9 _) (yI (by omega)) (JU 8)).mono ?_;rintro e w3 ⟨rfl,a8⟩;rw[q87];have G3:=qg4 a8;clear a8))
 have ga:=G2.out.trans ((qg6 _ _ none).trans G3.out);refine j5 (λu=>(wq.tp u.tape).grownBy u none/\qN 0 u.heap.size u v3 [(6,9),(2,3),(0,0)]) ⟨gb g1 (tpg ga),bA.kn ga⟩ λu2 hF=>?_;obtain⟨g2,h9⟩:=hF;clear ga G3 G2 P2 I2 g1 bA;refine EL.sp D hb hs λT=>?_;go_wp2_with (first
  | (go_at_call 80;refine(yp 8 _).mono ?_;rintro e w2 ⟨v2,rfl,hg2,a6,a7⟩;have G2:=qg4 hg2;have P2:=qg4 a6;have I2:=qg4 a7;obtain⟨yb,yc,rfl,-,-⟩:=a6.cell;clear hg2 a6 a7)
  | (go_at_call 36;refine(q7d 0 _ _ _ (ze 8) 6 [0,1,2] _ ((P2.out.kept (qg6 _ _ none) (by simp)).mono (qh1 _) (by rw[qgk];omega)) (jE _ [0,1,2] rfl (by decide)) (qg9 _) (yI (by omega)) (JU 8)).mono ?_;rintro e w3 ⟨rfl,a8⟩;rw[qaD];have G3:=qg4 a8;clear a8))
 obtain⟨X,hX⟩:∃X,X=w3.heap.size:=⟨_,rfl⟩;rw[<- hX];have ga:=(G2.out.trans ((qg6 _ _ none).trans G3.out)).trans (qg6 w3 (.cells #[.int .i64 (-1),.int .i64 2] 26) none);refine j5 (λu=>(wq.tp u.tape).grownBy u none/\qN 0 u.heap.size u v3 [(6,9),(2,3),(0,0)]/\u.heap[X]?=some (.cells #[.int .i64 (-1),.int .i64 2] 26 (0,0))) ⟨gb g2 (tpg ga),h9.kn ga,by rw[hX];exact qgg _ _⟩ λu3 hF=>?_;obtain⟨g3,h8,x3⟩:=hF;clear ga G3 G2 P2 I2 g2 h9 hX;refine EL.seq D hb hs ?_;refine EL.region D hb hs ?_;simp only[qgF,qgq,qgx,qgG,qgz,qgB,qhg];refine EL.list D hb hs [0,1] [_,_] (rest:=[2,3,4,5,6,7]) rfl λT=>?_;go_wp2_with (first
  | (go_at_call 80;refine(yp 8 _).mono ?_;rintro e w2 ⟨v2,rfl,hg2,a6,a7⟩;have G2:=qg4 hg2;have P2:=qg4 a6;have I2:=qg4 a7;obtain⟨yb,yc,rfl,-,-⟩:=a6.cell;clear hg2 a6 a7))
 obtain⟨B,hB⟩:∃B,B=w2.heap.size:=⟨_,rfl⟩;rw[<- hB];have ga:=G2.out.trans (qg6 w2 (.cells #[.int .i64 0,.int .i64 1,.int .i64 2] 3) none);have b8:(w2.alloc (.cells #[.int .i64 0,.int .i64 1,.int .i64 2] 3)).heap[B]?=some (.cells #[.int .i64 0,.int .i64 1,.int .i64 2] 3 (0,0)):=by rw[hB];exact qgg _ _
 refine j5 (λu=>((wq.tp u.tape).grownBy u none/\qN 0 u.heap.size u v3 [(6,9),(2,3),(0,0)]/\u.heap[X]?=some (.cells #[.int .i64 (-1),.int .i64 2] 26 (0,0)))/\qr 0 u.heap.size u (.slice yb (ze 8).length yc) (ze 8)/\qy u (.slice yb (ze 8).length yc)/\qe 0 u.heap.size u (.slice (some ⟨B,0,none⟩) ([0,1,2]:List Int).length 3) [0,1,2]/\qy u (.slice (some ⟨B,0,none⟩) ([0,1,2]:List Int).length 3))
  ⟨⟨gb g3 (tpg ga),h8.kn ga,blk ga (by simp) x3⟩,(P2.out.kept (qg6 _ _ none) (by simp)).mono (qh1 _) (by rw[qgk];omega),λad n c e=>by
   obtain⟨cs,e1,f1,h1,h2⟩:=I2.out ad n c e;exact⟨cs,e1,f1,qq h1,h2⟩,Zy [0,1,2] b8 rfl (by decide),λad n c e=>by
   cases e;refine⟨_,_,_,b8,λi u hu=>?_⟩;have hm:=qi5 hu;simp only[qjC,qhH,qif,or_false] at hm;rcases hm with h | h | h<;>exact⟨_,_,h⟩⟩ λu4 hF=>?_
 obtain⟨⟨g4,e9,x4⟩,p4,c3,i4,c8⟩:=hF;clear ga b8 hB G2 P2 I2 g3 h8 x3;refine EL.enter D hb hs (fk:=29) (args:=#[.agg #[.slice yb (ze 8).length yc,.int .i64 6],.slice (some ⟨B,0,none⟩) 3 3]) rfl rfl (λT=>by rw[qlx (f:=29) rfl Tp.x29 (by kernel_rfl) rfl];walk_nrm) (z6 29 (by decide)) ?_;refine qfs D hok k5 hin hfs (ws:=[0,1,2]) (l:=[0,1,2]) (by decide) (λc hc hl=>q6x (yI (by omega)) (by simp[vf]) (by decide) (λy hy=>by have:=hc y hy;simp at this;rw[vf];omega) (by simp at hl;omega)) (xS (by decide) (by decide)) (yI (by omega)) (JU 8) p4 c3 i4 c8 ?_ _ cs hb hs λv u hR=>?_
 ·obtain⟨cs,e,g,h0,k6⟩:=h0;exact⟨cs,e,g,blk (w:=wq.tp u4.tape) g4 (by simp) h0,k6⟩
 obtain⟨o,s,rfl,⟨bo,b7⟩,b0,d5⟩:=hR;rw[qaC] at b7;obtain⟨rfl,rfl⟩:=Prod.mk.inj b7;have g5:=gb g4 b0;have e8:=e9.kn b0;have x5:=blk (w:=u4.tp u.tape) b0 (by simp) x4;clear g4 e9 x4 p4 c3 i4 c8 b7 b0;rw[qiA];walk_nrm;refine EL.list D hb hs [3,4,5,6,7] [_,_,_,_,_] (rest:=[]) rfl λT=>?_;go_wp2;refine EL.tape (wq:=u) ?_ T;refine EL.region_end D hb hs ?_;refine EL.sp D hb hs λT=>?_;go_wp2_with (first
  | (go_at_call 80;refine(yp 12 _).mono ?_;rintro e w2 ⟨v2,rfl,hg2,a6,a7⟩;have G2:=qg4 hg2;have P2:=qg4 a6;have I2:=qg4 a7;obtain⟨yb,yc,rfl,-,-⟩:=a6.cell;clear hg2 a6 a7)
  | (go_at_call 54;refine(qcm _ _ (ze 12) 6 [2,1,0] _ ((P2.out.kept (qg6 _ _ none) (by simp)).mono (qh1 _) (by rw[qgk];omega)) (jE _ [2,1,0] rfl (by decide)) (yI (by omega)) (qcf 12) 10 (by decide) (some (3,[0,1,2])) qcE).mono ?_;rintro e w3 ⟨a8,v7,rfl,c9⟩;have G3:=qg4 a8;have I7:=qg4 c9;clear a8 c9))
 have ga:=G2.out.trans ((qg6 _ _ none).trans G3.out);refine j5 (λq=>(wq.tp q.tape).grownBy q none/\qN 0 q.heap.size q v3 [(6,9),(2,3),(0,0)]/\q.heap[X]?=some (.cells #[.int .i64 (-1),.int .i64 2] 26 (0,0))/\qe 0 q.heap.size q s [1,2]/\qe 0 q.heap.size q v7 [0,1,2]) ⟨gb g5 (tpg ga),e8.kn ga,blk ga (by simp) x5,d5.kn ga,I7.out⟩ λu6 hF=>?_;obtain⟨g6,e7,x6,s6,m6⟩:=hF;clear ga G3 G2 P2 I2 I7 g5 e8 x5 d5;refine EL.sp D hb hs λT=>?_;go_wp2_with (first
  | (go_at_call 80;refine(yp 8 _).mono ?_;rintro e w2 ⟨v2,rfl,hg2,a6,a7⟩;have G2:=qg4 hg2;have P2:=qg4 a6;have I2:=qg4 a7;obtain⟨yb,yc,rfl,-,-⟩:=a6.cell;clear hg2 a6 a7)
  | (go_at_call 63;refine(q83 _ (ze 8) 6 _ (P2.out.mono (qh1 _) (qg9 _)) (yI (by omega)) JZ (by decide) (by decide) exS q89.symm (by decide) (by decide) q88 10 (by decide) [[0,2],[1,3]] qeo).mono ?_;rintro e w3 ⟨v9,rfl,a8,a9⟩;have G3:=qg4 a8;have R9:=qg4 a9;clear a8 a9))
 have ga:=G2.out.trans G3.out;refine j5 (λq=>(wq.tp q.tape).grownBy q none/\qN 0 q.heap.size q v3 [(6,9),(2,3),(0,0)]/\q.heap[X]?=some (.cells #[.int .i64 (-1),.int .i64 2] 26 (0,0))/\qe 0 q.heap.size q s [1,2]/\qe 0 q.heap.size q v7 [0,1,2]/\RowsIn 0 q.heap.size q v9 [[0,2],[1,3]]) ⟨gb g6 (tpg ga),e7.kn ga,blk ga (by simp) x6,s6.kn ga,m6.kn ga,R9.out⟩ λu7 hF=>?_;obtain⟨g7,e6,x7,s7,m7,r7⟩:=hF;clear ga G3 G2 P2 I2 R9 g6 e7 x6 s6 m6;refine EL.sp D hb hs λT=>?_;go_wp2_with (first
  | (go_at_call 80;refine(yp 12 _).mono ?_;rintro e w2 ⟨v2,rfl,hg2,a6,a7⟩;have G2:=qg4 hg2;have P2:=qg4 a6;have I2:=qg4 a7;obtain⟨yb,yc,rfl,-,-⟩:=a6.cell;clear hg2 a6 a7)
  | (go_at_call 44;refine(qab _ (ze 12) 6 _ (P2.out.mono (qh1 _) (qg9 _)) (yI (by omega))).mono ?_;rintro e w3 ⟨k0,rfl,a8,a9⟩;rw[qcD] at a9;have G3:=qg4 a8;have R9:=qg4 a9;clear a8 a9))
 have ga:=G2.out.trans G3.out;refine j5 (λq=>(wq.tp q.tape).grownBy q none/\qN 0 q.heap.size q v3 [(6,9),(2,3),(0,0)]/\q.heap[X]?=some (.cells #[.int .i64 (-1),.int .i64 2] 26 (0,0))/\qe 0 q.heap.size q s [1,2]/\qe 0 q.heap.size q v7 [0,1,2]/\RowsIn 0 q.heap.size q v9 [[0,2],[1,3]]/\qe 0 q.heap.size q k0 [0,1,2]) ⟨gb g7 (tpg ga),e6.kn ga,blk ga (by simp) x7,s7.kn ga,m7.kn ga,r7.kn ga,R9.out⟩ λu8 hF=>?_;obtain⟨g8,e5,x8,s8,m8,r8,o8⟩:=hF;clear ga G3 G2 P2 I2 R9 g7 e6 x7 s7 m7 r7;refine EL.sp D hb hs λT=>?_;have GA:=qg4 (qgn (u8.tp T) none);have c0:=q8 (w:=u8.tp T) x8 (o:=0) rfl;have c1:=q8 (w:=u8.tp T) x8 (o:=1) rfl;have k8:=λ(w:qg7)=>qbh (-1) 2 (-1) 2 w;have k7:=Kh;go_wp2_with (fail);refine(Kz 0 _ 0 _ _ _ [(6,9),(2,3),(0,0)] [(6,9),(2,3),(0,0)] _ (qN.kept (w:=u8.tp T) e5 (qg6 (u8.tp T) _ none) (by simp)) (q7x (qgg _ _) rfl)).mono ?_;rintro e wA ⟨rfl,e4⟩;have gA:=(qg6 (u8.tp T) _ none).trans e4;have GA:=qg4 gA;have S8:=qg4 (s8.kn gA);have M8:=qg4 (m8.kn gA);have R8:=qg4 (r8.kn gA);have O8:=qg4 (o8.kn gA);clear gA e4 c0 c1 s8 m8 r8 o8 e5;rw[decide_eq_true (show([(6,9),(2,3),(0,0)]:List (Int × Int))=[(6,9),(2,3),(0,0)] from rfl)];go_wp2_with (fail);refine(jZ 0 _ 0 _ _ _ [1,2] [1,2] _ (S8.out.alloc _) (jE _ [1,2] rfl (by decide))).mono ?_;rintro e wB ⟨rfl,d9⟩;have gB:=(qg6 wA _ none).trans d9;have GB:=qg4 (GA.out.trans gB);have M9:=qg4 (M8.out.kn (T:=wA.tape) gB);have R9:=qg4 (R8.out.kn (T:=wA.tape) gB);have O9:=qg4 (O8.out.kn (T:=wA.tape) gB);clear gB d9 GA S8 M8 R8 O8;rw[decide_eq_true (show([1,2]:List Int)=[1,2] from rfl)];go_wp2_with (fail);refine(jZ 0 _ 0 _ _ _ [0,1,2] [0,1,2] _ (M9.out.alloc _) (jE _ [0,1,2] rfl (by decide))).mono ?_;rintro e wC ⟨rfl,d8⟩;have gC:=(qg6 wB _ none).trans d8;have GC:=qg4 (GB.out.trans gC);have RC:=qg4 (R9.out.kn (T:=wB.tape) gC);have OC:=qg4 (O9.out.kn (T:=wB.tape) gC);clear gC d8 GB M9 R9 O9;rw[decide_eq_true (show([0,1,2]:List Int)=[0,1,2] from rfl)];go_wp2_with (fail);refine(q1v 0 _ 0 _ _ _ [[0,2],[1,3]] [[0,2],[1,3]] _ (RC.out.kept ((qg6 _ _ none).trans ((qg6 _ _ none).trans (qg6 _ _ none))) (by simp)) (q5C wC)).mono ?_;rintro e wD ⟨rfl,d7⟩;have gD:=((qg6 wC _ none).trans ((qg6 _ _ none).trans (qg6 _ _ none))).trans d7;have GD:=qg4 (GC.out.trans gD);have OD:=qg4 (OC.out.kn (T:=wC.tape) gD);clear gD d7 GC RC OC;rw[decide_eq_true (show([[0,2],[1,3]]:List (List Int))=[[0,2],[1,3]] from rfl)];go_wp2_with (fail);refine(jZ 0 _ 0 _ _ _ [0,1,2] [0,1,2] _ (OD.out.alloc _) (jE _ [0,1,2] rfl (by decide))).mono ?_;rintro e wE ⟨rfl,d6⟩;have gE:=GD.out.trans ((qg6 wD _ none).trans d6);have GE:=qg4 gE;clear gE d6 GD OD;rw[decide_eq_true (show([0,1,2]:List Int)=[0,1,2] from rfl)];go_wp2;refine j5 (λq=>(wq.tp q.tape).grownBy q none) (gb g8 (tpg GE.out)) λu9 g9=>?_;refine EL.retS D hb hs ?_;exact HR.out _ _ u9 ⟨rfl,g9⟩
end
end
section
open Go Go.RowKit Go.Co Go.Sim Go.Conc Go.ConcN
theorem qey.yok{n:Nat}{ps:List Par}{lim:Int}(h:qey n ps lim)(hn:n<=5):YOk ps lim:=⟨by have:=h.len;omega,λp hp=>by
 have:=h.each p hp;have h1:=this.a;have h2:=this.b;have h3:=this.c;have h4:=this.d;have h5:=this.e;have h6:=this.f;have h7:=this.g;have h8:=this.h;omega,by have:=h.l1;omega,by have:=h.l2;omega⟩
theorem q7A{f:qhs}{fn:Func}{c0:qiw}{args:Array qgb}(hf:Tp.prog.funcs[f]?=some fn)(a6:fn.body=some c0) :qh8 Tp.prog f args .normal=(qgA f).at ⟨args++qhk (fn.ntmps - args.size) qgd,[]⟩ [.code c0]:=by
 simp[qh8,hf,a6,Frame.at,qgA]
section
variable[J:JunkSet]{Post:qgb->qg7->Prop}{W:qg7}
end
end
section
open Go.RowKit
theorem qbi(lo hi:Nat)(v:qgb)(l:List Int)(x:Int)(w:qg7)(hI:qe lo hi w v l) :qhf Tp.prog 40 #[v,.int .i64 x] w λe w'=>∃r:Int,e=.returned (.int .i64 r)/\(r<0↔x∉l)/\w=w':=by
 obtain⟨base,cap,rfl,b8,hc⟩:=hI.cell;have HC:=qg4 hc;clear hc;go_enter Tp.x40,Tryz.ntmps40;go_wp2;go_loopw [5] (λiv wr=>∃k:Nat,iv=.int .i64 k/\k<=l.length/\(∀y∈l.take k,y≠x)/\wr=w) (λiv _=>(l.length - qhj iv).toNat)
 case atStart=>exact⟨0,rfl,by omega,by simp,rfl⟩
 case round=>
  obtain⟨k,rfl,hk,a9,rfl⟩:=hrel;have b7:=qg4 a9;clear a9;by_cases hlt:k<l.length
  ·obtain⟨B,o,rfl,c9,c8,c3,b0⟩:=HC.out (by intro e;rw[e] at hlt;simp at hlt);have hx:=b0 k hlt;obtain⟨y,a6⟩:∃y,l[k]?=some y:=⟨_,qge hlt⟩;rw[a6] at hx;simp only[qgh] at hx;have b6:=qg4 a6;have b9:(k:Int)<(l.length:Int):=by omega
   clear b0 a6;by_cases a8:y=x
   ·subst a8;go_wp2;go_ret;exact⟨k,rfl,⟨λh=>by omega,λh=>absurd (qgj b6.out) h⟩,rfl⟩
   ·have a7:¬ y=x:=a8;go_wp2;go_roundw
    case rel=>
     refine⟨k+1,by simp,by omega,λz hz=>?_,trivial⟩;rw[qhd,b6.out] at hz;rcases qiD.1 hz with hz | hz
     ·exact b7.out z hz
     ·obtain rfl:z=y:=by simpa using hz
      exact a7
    case measure=>simp[qhj];omega
  ·obtain rfl:k=l.length:=by omega
   go_wp2;go_ret;exact⟨-1,rfl,⟨λ_ h=>b7.out x (by simpa using h) rfl,λ_=>by omega⟩,rfl⟩
theorem Qr:∀(n:Nat) (l:List Int),l.Nodup->(∀x∈l,0<=x/\x<n)->l.length<=n
 | 0,l,_,h=>by
  cases l with
  | nil=>simp
  | cons x _=>have:=h x (by simp);omega
 | n+1,l,hd,h=>by
  by_cases hm:(n:Int)∈l
  ·have h1:=Qr n (l.erase n) (hd.erase _) λx hx=>by
    have h2:=(hd.mem_erase_iff).1 hx;have:=h x h2.2;have:=h2.1;omega
   have:=List.length_erase_of_mem hm;omega
  ·have:=Qr n l hd λx hx=>by
    have h2:=h x hx;have:x≠n:=λe=>hm (e ▸ hx);omega
   omega
structure OnAt(w:qg7)(Bm Y Bp:Nat)(yb pb:Option qho)(yc pc:Nat)(ps:List Par)(lim:Int)(l:List Int):Prop where
 m0:w.cell? ⟨Bm,0,none⟩=some (.int .u8 (zu l:Nat))
 y0:w.cell? ⟨Y,0,none⟩=some (.slice yb ps.length yc)
 y1:w.cell? ⟨Y,1,none⟩=some (.int .i64 lim)
 p0:w.cell? ⟨Bp,0,none⟩=some (.slice pb l.length pc)
 hP:qr 0 w.heap.size w (.slice yb ps.length yc) ps
 hI:qe 0 w.heap.size w (.slice pb l.length pc) l
 pl:l.length<=pc
end
section

end
section
open Go.RowKit
@[simp] theorem qfG(w:qg7):(method 355 170 (.agg #[]) "gladstone/pile.holds").run Tp.prog w=.ok (241,.agg #[]) w:=by kernel_rfl
@[simp] theorem qfF(w:qg7):(method 355 171 (.agg #[]) "gladstone/pile.holds").run Tp.prog w=.ok (242,.agg #[]) w:=by kernel_rfl
end
section
theorem q3e{g g':Nat->Int}(hg:∀i,g i<=g' i)(l:List Int)(k:Nat):loadAt g l k<=loadAt g' l k:=by
 have ht:∀t:List Int,tot (t.map λx=>g x.toNat)<=tot (t.map λx=>g' x.toNat):=λt=>by
  induction t with
  | nil=>exact Int.le_refl _
  | cons a t ih=>simp only[qkm,tot];have:=hg a.toNat;omega
 exact ht _
theorem q7r{ps:List Par}{g g':Nat->Int}(hg:∀i,g i<=g' i){l:List Int}{k:Nat}(h:yz ps g' l k=true):yz ps g l k=true:=by
 unfold yz at h ⊢;split at h
 ·have:=q3e hg l k;have:=of_decide_eq_true h;exact decide_eq_true (by omega)
 ·cases h
theorem Yg{ps:List Par}{g:Nat->Int}{l:List Int}:qp ps g l=true↔∀k,k<l.length->yz ps g l k=true:=by
 unfold qp;rw[qh9];exact⟨λh k hk=>h k (qi4.2 hk),λh k hk=>h k (qi4.1 hk)⟩
theorem Zj{ps:List Par}{g g':Nat->Int}(hg:∀i,g i<=g' i){l:List Int}(h:qp ps g' l=true):qp ps g l=true :=
 Yg.2 λk hk=>q7r hg (Yg.1 h k hk)
def YK(n:Nat):Nat->List (List Int)
 | 0=>[[]]
 | k+1=>(qgB n).flatMap λ(i:Nat)=>(YK n k).map λl=>(i:Int)::l
def qeh(l:List Int)(k:Nat):Bool:=(qgB k).all λ(i:Nat)=>l.contains (i:Int)
def qch(n:Nat):List (List Int):=(YK n n).filter λl=>qeh l n
end
section
open Go Go.RowKit
theorem qal(lo hi:Nat)(v:qgb)(l:List Int)(w:qg7)(hI:qe lo hi w v l)(hhi:hi<=w.heap.size)(hl:l.length<=1000) :qhf Tp.prog 28 #[v] w λe w'=>∃v',e=.returned v'/\w.grownBy w' none/\w'.ownsRow w.heap.size 3 1 v' l.length (l.map (qgy .i64)):=by
 obtain⟨i0,b7,b6,b0,a9⟩:=qiv Tp.info3p;obtain⟨base,cap,rfl,b8,hc⟩:=hI;rcases base with _ | ad
 ·obtain rfl:l=[]:=qhG λh=>by obtain⟨_,_,_,_,e,_⟩:=hc h;cases e
  clear hc;go_enter Tp.x28,Tryz.ntmps28;go_wp2;go_ret;exact⟨_,rfl,qg6 _ _ none,rfl,.inr ⟨_,0,#[],rfl,qg9 _,qgg _ _,qg9 _,by decide,rfl,rfl⟩⟩
 ·have hn:∀j u,(l.map (qgy .i64))[j]?=some u->(w.alloc (.cells #[] 3)).cell? (ad.add j)=some u:=λj u hu=>by
   rw[qj1] at hu;cases hj:l[j]? with
   | none=>rw[hj] at hu;cases hu
   | some x=>
    rw[hj] at hu;cases hu;have a8:=(qgo.1 hj).1;obtain⟨B,o,cs,fr,e,h1,h2,h3,h4⟩:=hc (by rintro rfl;simp at a8);cases e;have:=h4 j a8;rw[hj] at this;exact yP (q8 (qq h3) this)
  have HN:=qg4 hn;clear hc hn;go_enter Tp.x28,Tryz.ntmps28;go_wp2_with (first
   | (at_builtin;go_must (refine qke _ rfl _ _ 29 rfl w.heap.size 3 i0 _ 1 8 Tp.und29' b7 b6 b0 a9 rfl (by decide) (.slice (some ⟨w.heap.size,0,none⟩) 0 0) 0 [] rfl ⟨rfl,.inr ⟨_,0,#[],rfl,qg9 _,qgg _ _,qg9 _,by decide,rfl,rfl⟩⟩ ad l.length cap (l.map (qgy .i64)) rfl (by simp) HN.out (by intro u hu;simp at hu;obtain⟨x,_,rfl⟩:=hu;rfl) (by unfold qk9;omega) (by omega) (by simp) ?_);intro v' w7 a6 a7 _;have HO:=qg4 a6;have HG:=qg4 a7;clear a6 a7))
  go_ret;refine⟨_,rfl,(qg6 _ _ none).andThen HG.out (λj e=>.inl ?_),by simpa using HO.out⟩;simp[qh3] at e;omega
end
section
open Go.RowKit
def jF(w:qg7)(O n:Nat)(f:Nat->Bool):Prop:=∃cs,w.heap[O]?=some (.cells cs 4 (0,0))/\cs.size=n/\∀i,i<n->cs[i]?=some (.bool (f i))
theorem jF.lt{w:qg7}{O n:Nat}{f:Nat->Bool}(h:jF w O n f):O<w.heap.size:=by
 obtain⟨cs,h,-⟩:=h;exact(qg8.1 h).1
theorem jF.cell{w:qg7}{O n i:Nat}{f:Nat->Bool}(h:jF w O n f)(hi:i<n):w.cell? ⟨O,i,none⟩=some (.bool (f i)):=by
 obtain⟨cs,h,-,hc⟩:=h;simp[qh6,h,hc i hi]
theorem jF.thaw{w:qg7}{O n:Nat}{f:Nat->Bool}(h:jF w O n f)(i:Nat):w.frozen? ⟨O,i,none⟩=false:=by
 obtain⟨cs,h,-⟩:=h;simp[qk4,h]
theorem jF.congr{w:qg7}{O n:Nat}{f g:Nat->Bool}(h:jF w O n f)(e:∀i,i<n->f i=g i):jF w O n g:=by
 obtain⟨cs,h,hs,hc⟩:=h;exact⟨cs,h,hs,λi hi=>by rw[hc i hi,e i hi]⟩
theorem jF.set{w:qg7}{O n i:Nat}{f:Nat->Bool}{x:Bool}(h:jF w O n f)(hi:i<n):jF (w.setCell ⟨O,i,none⟩ (.bool x)) O n λj=>if j=i then x else f j:=by
 obtain⟨cs,h,hs,hc⟩:=h;refine⟨_,qh h,by simp[hs],λj hj=>?_⟩;by_cases e:j=i
 ·subst e;simp[hs,hj]
 ·rw[qh5,if_neg (by omega),hc j hj];show _=some (Value.bool (if j=i then x else f j));rw[if_neg e]
theorem jF.kept{w w':qg7}{O n:Nat}{f:Nat->Bool}{row:Option Nat}(h:jF w O n f)(hg:w.grownBy w' row)(hne:some O≠row):jF w' O n f:=by
 obtain⟨cs,h,hs,hc⟩:=h;exact⟨cs,blk hg hne h,hs,hc⟩
theorem jF.made(w:qg7)(n:Nat):jF (w.alloc (.cells (qjE #[.bool false] n) 4)) w.heap.size n λ_=>false:=by
 refine⟨_,qgg w _,size_madeCells _ _,λi hi=>?_⟩;unfold qjE;simp[hi,Nat.mod_one]
def gw(ws:List Int)(n:Nat):Int:=ws[n]?.getD 0
theorem q3F(lo hi:Nat)(yv pv wv:qgb)(ps:List Par)(lim:Int)(l ws:List Int)(w:qg7)(hP:qr lo hi w yv ps)(hI:qe lo hi w pv l)(hW:qe lo hi w wv ws)(hhi:hi<=w.heap.size)(hx:∀x∈l,0<=x/\x<ps.length)(hl:l.length<=1000)(hwl:ws.length=ps.length)(hg:∀i,0<=gw ws i/\gw ws i<=1000)(hb:∀p∈ps,0<=p.bears/\p.bears<=1000) :qhf Tp.prog 43 #[.agg #[yv,.int .i64 lim],pv,wv] w λe w'=>∃D,e=.returned (.slice (some ⟨D,0,none⟩) l.length l.length)/\w.heap.size<=D/\w.grownBy w' none/\jF w' D l.length λk=>!yz ps (gw ws) l k:=by
 obtain⟨yb,yc,rfl,k6,-⟩:=hP.cell;obtain⟨base,cap,rfl,l9,-⟩:=hI.cell;obtain⟨wb,wc,rfl,l4,-⟩:=hW.cell;have c3:∀w,(Instr.makeSlice 61 (.int .i64 l.length) (.int .i64 l.length)).run Tp.prog w=.ok (.slice (some ⟨w.heap.size,0,none⟩) l.length l.length) (w.alloc (.cells (qjE #[.bool false] l.length) 4)):=λw=>by
  have:=run_make (P:=Tp.prog) w 61 4 qpu (.bool false) (by rw[Tp.und];exact Tryz.underlying61) (by rw[Qy _ _ Tp.tables];exact Tryz.type4) rfl .i64 .i64 l.length l.length (by omega) (by omega) (by simp[qpu];omega) (by omega);simpa[Value.cells,qpu] using this
 have d7:=qg4 c3;go_enter Tp.x43,Tryz.ntmps43;go_upto_region 2 with(first | rw[d7.out]);obtain⟨A,hA⟩:∃A,A=w.heap.size:=⟨_,rfl⟩;have hG:w.grownBy ((w.alloc (.cells #[.slice yb ps.length yc,.int .i64 lim] 24)).alloc (.cells (qjE #[.bool false] l.length) 4)) none:=(qg6 _ _ none).trans (qg6 _ _ none);have hY:((w.alloc (.cells #[.slice yb ps.length yc,.int .i64 lim] 24)).alloc (.cells (qjE #[.bool false] l.length) 4)).heap[A]?=some (.cells #[.slice yb ps.length yc,.int .i64 lim] 24 (0,0)):=qq (by rw[hA];exact qgg w _);have hR:jF ((w.alloc (.cells #[.slice yb ps.length yc,.int .i64 lim] 24)).alloc (.cells (qjE #[.bool false] l.length) 4)) (A+1) l.length λ_=>false:=by
  have:=jF.made (w.alloc (.cells #[.slice yb ps.length yc,.int .i64 lim] 24)) l.length;rw[qgk,<- hA] at this;exact this
 rw[<- hA];show Code.wp _ _ _ _ ((w.alloc (.cells #[.slice yb ps.length yc,.int .i64 lim] 24)).alloc (.cells (qjE #[.bool false] l.length) 4));generalize (w.alloc (.cells #[.slice yb ps.length yc,.int .i64 lim] 24)).alloc (.cells (qjE #[.bool false] l.length) 4)=w1 at hG hY hR ⊢;obtain⟨D,hD⟩:∃D,D=A+1:=⟨_,rfl⟩;rw[<- hD] at hR ⊢;have n2:¬ A=D:=by omega
 have b8:hi<=D/\A<=D:=by omega
 have g5:=qg4 (hI.kept hG (by simp));have e8:=qg4 (hP.kept hG (by simp));have e6:=qg4 (hW.kept hG (by simp));have HG:=qg4 hG;have HY:=qg4 hY;have HR:=qg4 hR;have HA:=qg4 hA;have HX:=qg4 hx;have d8:=qg4 hg;have g6:=qg4 hb;have e5:=qg4 hwl;clear hG hY hR hA hD hI hP hW hx hg hb hwl d7 c3;go_wp2;go_loopw [8,9] (λld i wr=>∃(k:Int) (q:Int),i=.int .i64 k/\ld=.int .i64 q/\-1<=k/\k<l.length/\(0<=q/\q<=2000000)/\(0<=k->q=loadAt (gw ws) l k.toNat)/\w1.grownBy wr (some D)/\jF wr D l.length λj=>if k<(j:Int) then !yz ps (gw ws) l j else false) (λ_ i _=>(qhj i+1).toNat)
 case atStart=>
  refine⟨(l.length:Int) - 1,0,rfl,rfl,by omega,by omega,by omega,λh=>?_,qgn _ _,HR.out.congr λi hi=>?_⟩
  ·rw[Jq _ _ _ (by omega)]
  ·rw[if_neg (by omega)]
 case round=>
  obtain⟨k,q,rfl,rfl,m4,m3,hq,a8,hG,hB⟩:=hrel;by_cases hlt:0<=k
  ·obtain⟨n,rfl⟩:∃n:Nat,k=n:=⟨k.toNat,by omega⟩;have hn:n<l.length:=by omega
   obtain⟨_,_,he,-,hcell⟩:=(g5.out.kept hG (by rintro R e;cases e;exact .inr b8.1)).cell;cases he;obtain⟨B,o,rfl,-,m8,-,d6⟩:=hcell (by intro e;rw[e] at hn;simp at hn);have hp:=d6 n hn;obtain⟨x,hx⟩:∃x,l[n]?=some x:=⟨_,qge hn⟩;obtain⟨k8,k7⟩:=HX.out x (qgj hx);rw[hx] at hp;simp only[qgh] at hp;obtain⟨m,rfl⟩:∃m:Nat,x=m:=⟨x.toNat,by omega⟩;have a9:m<ps.length:=by omega
   have l8:(m:Int)<(ps.length:Int):=by omega
   obtain⟨_,_,he,-,a6⟩:=(e8.out.kept hG (by rintro R e;cases e;exact .inr b8.1)).cell;cases he;obtain⟨YB,yo,rfl,-,m5,-,c9⟩:=a6 (by intro e;rw[e] at a9;simp at a9);obtain⟨p,b6,-,-,hbr,-⟩:=c9 m a9;obtain⟨_,_,he,-,a7⟩:=(e6.out.kept hG (by rintro R e;cases e;exact .inr b8.1)).cell;cases he;have b7:m<ws.length:=by rw[e5.out];exact a9
   have g8:(m:Int)<(ws.length:Int):=by omega
   obtain⟨WB,wo,rfl,k0,h9,-,d5⟩:=a7 (by intro e;rw[e] at b7;simp at b7);have b0:=d5 m b7;rw[show ws[m]?.getD 0=gw ws m from rfl] at b0;have k9:¬ WB=D:=by omega
   have e4:=d8.out m;have l6:=g6.out p (qgj b6);have y0:=q8 (blk hG (by simp;omega) HY.out) (o:=0) rfl;have c8:=hB.cell (i:=n) hn;have fz:=hB.thaw n;have m7:=hB.lt;have hok:yz ps (gw ws) l n=decide (loadAt (gw ws) l n<=p.bears):=by unfold yz;rw[hx];simp[b6]
   have hst:∀j,j+1=n->loadAt (gw ws) l j=q+gw ws m:=λj hj=>by
    subst hj;rw[Jp _ _ _ _ hx,a8 (by omega)];simp
   rw[show loadAt (gw ws) l n=q by have:=a8 (by omega);simpa using this.symm] at hok;have l5:q<=1000000:=by rw[a8 (by omega)];exact(J5 _ _ _ d8.out hl).2
   generalize gw ws m=r at b0 hst e4;generalize (if(n:Int)<(n:Int) then !yz ps (gw ws) l n else false)=z at c8;have e7:=qg4 hst;have e9:=qg4 hok;have b9:=qg4 hG;have HB:=qg4 hB;have hni:(n:Int)<(l.length:Int):=by omega
   have m9:¬ B=D:=by omega
   have m6:¬ YB=D:=by omega
   clear a8 hG hB hcell d6 a6 c9 a7 d5 hx b6 hok hst;by_cases d9:p.bears<q;all_goals
    go_wp2_with (fail);go_still_tail 13,(by kernel_rfl);change wpList _ _ _ _ _ wr.drew;have l7:wr.drew.cell? ⟨B,o+n,none⟩=_:=hp;have h8:wr.drew.cell? ⟨YB,yo+m*4+2,none⟩=_:=hbr;have g7:wr.drew.cell? ⟨WB,wo+m,none⟩=_:=b0;have k5:wr.drew.cell? ⟨A,0,none⟩=_:=y0;have g9:wr.drew.cell? ⟨D,n,none⟩=_:=c8;have n3:wr.drew.frozen? ⟨D,n,none⟩=false:=fz;go_wp2;go_roundw
    case rel=>
     refine⟨(n:Int) - 1,q+r,rfl,rfl,by omega,by omega,?_,?_,(b9.out.trans (qc _ _)).trans (qf _ _ _ _),?_⟩
     ·omega
     ·intro h;exact(e7.out _ (by omega)).symm
     ·refine((HB.out.kept (qc _ none) (by simp)).set (i:=n) (by omega)).congr λj hj=>?_;by_cases e:j=n
      ·subst e;rw[if_pos rfl,if_pos (by omega),e9.out];rw[show(!decide (q<=p.bears))=decide (p.bears<q) by rw[<- decide_not,decide_eq_decide];omega];try exact(decide_eq_true d9).symm
      ·by_cases e2:(n:Int)<j
       ·rw[if_neg e,if_pos e2,if_pos (by omega)]
       ·rw[if_neg e,if_neg e2,if_neg (by omega)]
    case measure=>simp[qhj]
  ·have b9:=qg4 hG;have HB:=qg4 hB;clear hG hB;go_wp2;go_ret;have hD:=HA.out;exact⟨D,rfl,by omega,HG.out.andThen b9.out (by rintro j e;cases e;exact .inl (by omega)),HB.out.congr λi hi=>by rw[if_pos (by omega)]⟩
end
end Go.Proofs.YtidgnkmjgioapaaGreat
