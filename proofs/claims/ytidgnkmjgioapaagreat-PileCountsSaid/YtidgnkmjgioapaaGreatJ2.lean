/-
  Part 5 of the proof. gladstonelaw04.PileCounts answers true for every yard, parcel and list of numbers that the statement takes, and leaves its arguments as they were. No conditions.
-/
import Derived.Test.YtidgnkmjgioapaaGreatJ1
import Derived.Conc.AtomicLaws2
import Derived.StillTailTactics
set_option maxRecDepth 100000
set_option maxHeartbeats 8000000
set_option linter.all false
open And renaming intro->qi8
open Array renaming eq_empty_of_size_eq_zero->qmz,getElem?_append->qlh,getElem?_append_left->qnt,getElem?_eq_getElem->qih,getElem?_eq_some_iff->qhs,getElem?_push->qm4,getElem?_setIfInBounds->qiC,getElem?_setIfInBounds_ne->qjb,getElem_append->qql,mem_append->ql9,mem_of_getElem?->qjB,range->qlE,replicate->qiE,replicate_succ->qie,replicate_zero->qif
open Bool renaming and_eq_true_iff->qqk,eq_false_iff->qm2,false_eq_true->qiv,not_false->qnn,true_and->qpu
open Classical renaming byContradiction->qj6
open Go renaming Addr->qiG,Calls->qis,Code->qkh,Deferred->qjH,Event->qjk,Frame->qhG,FuncId->qj8,Goroutine->qhw,Item->qlG,Oper->qjn,Operand->qiy,Program->qhF,Question->qk5,TypeId->qi4,TypeInfo->qlD,Value->qhu,World->qhr,bodyPost_ret->qka,bytes->qon,callDeferred->qk3,doReturn->qk7,execOp->qkA,grownCap->qm1,heap_alloc_new->qhA,heap_setCell_other->qlq,heap_setCell_same->qpn,info_parts->qjx,maxLen->qlg,ownsRow_succ->qn6,results->qke,stepG->qj5,tryRecover->qik,typeInfo->qlx,undef->qhx,unwind->qmj,yielded->qjt
open Go.Builtin renaming append_->ql7,firstCells->qo3,min_->qp9,zeroCells->qki
open Go.Calls renaming quiet_of_same->qk0
open Go.Conc renaming base->qij,baseD->qjm,Goes->qnh,QuitsD->qpf,events_results_tmp->qo6,run_call_body->qne,stepG_add_atomic->qmb,stepG_block->qoa,stepG_load_atomic->qmn,stepG_region_end->qhy,stepG_seq->qi5,stepG_skip->qjj
open Go.Conc.Goes renaming stop->qk9
open Go.ConcN renaming WgLive->qkB
open Go.ConcR renaming DC0->qoj
open Go.Frame renaming catches->qpq,enter->qiz,finish_at->qkj
open Go.GStep renaming after->qj9
open Go.IntKind renaming wrap_i64->qnB
open Go.IntWalk renaming i64_in->qin
open Go.Lib renaming hid->qhp
open Go.MemAct renaming ofEvent->qjq,touch?->qkg
open Go.Proofs.Tryz renaming f136->qoA,f139->qmd,f141->qoC,f142->qod,f143->qpb,f82->qqh,f85->qly,func139->qq5,func142->qop,ntmps106->qqG,ntmps111->qnG,ntmps32->qrl,prog->qi2,underlying3->qmD
open Go.Region renaming wanted->qip
open Go.Result renaming andThen_ok->qjl
open Go.RowKit renaming intOf->qiF
open Go.Sem renaming run_bind->qjo,run_pure->qmo
open Go.Value renaming int->qid,oneCell'->qjD,ownBlock->qix,slice->qjc
open Go.World renaming cell?->qiq,frozen?->qlt,grownBy_alloc->qhq,news_of_block->qje,ownsRow_nil->qjF,setCell->qk2,size_alloc->qhH
open Go.World.grownBy renaming andThen->qkm,refl->qhD
open List renaming all_eq_true->qiB,append_assoc->qk8,cons_append->qi7,count_cons->qq9,drop_succ_cons->qig,drop_zero->qit,eq_nil_of_length_eq_zero->qja,ext_getElem?->qnj,filter_append->qmh,filter_cons->qox,find?_eq_none->qn3,flatMap_cons->qkl,foldl_cons->qln,getElem?_append_left->qir,getElem?_append_right->qjv,getElem?_drop->qlA,getElem?_eq_getElem->qhz,getElem?_eq_none->qjp,getElem?_eq_some_iff->qi3,getElem?_map->qjE,getElem?_range->qm5,getElem?_take->qn2,getElem?_take_of_lt->qk4,getElem_mem->qmB,length_append->qj1,length_cons->qhE,length_filter_le->qkb,length_map->qkk,length_nil->qi1,length_pos_iff->qm6,length_take->qky,map_append->qk1,map_cons->qll,map_nil->qmq,map_toArray->qmc,mem_append->qku,mem_cons->qjr,mem_flatMap->qmE,mem_map->qlp,mem_of_getElem?->qi9,mem_range->qjC,mem_singleton->ql4,mem_toArray->qlb,nil_append->qii,not_mem_nil->qjG,push_toArray->qio,range->qil,size_toArray->qim,take_add_one->qj7,take_length->qjs,take_of_length_le->qom
open List.range renaming loop->qj2
open Nat renaming add_mul->qoc,le_of_eq->qlB,le_refl->qhv,le_trans->qhB,lt_of_lt_of_le->qi0,lt_or_ge->qjy,reduceAdd->qib,reduceSub->qiA,zero_add->qi6,zero_le->qiu
open Option renaming bind_eq_some_iff->qj3,getD_some->qhC,map_some->qjh,mem_toList->qrk
open Option.some renaming injEq->qiD
namespace Go.Proofs.YtidgnkmjgioapaaGreat
section
open Go Go.RowKit Go.Conc Go.ConcN Go.ConcN.Gen Go.Conc.Lib Go.ConcR.Gen Go.Co Go.Sim
def jD(a b A c Y V B:Nat):Array qhu:=#[pt a,pt b,pt A,pt c,pt Y,pt V,pt B]
def q0u(a b A c Y V B:Nat):qjH:={ target:=.fn (.func 139) (jD a b A c Y V B),args:=#[] }
def tm0(a b A c Y V B:Nat):Array qhu:=#[pt a,pt b,pt A,pt c,pt Y,pt V,pt B]++qiE 53 qhx
section
variable{Fz:Bs}{K:qhr->qhr->Prop}{Stop:Bs->qhw->qhr->Prop}{S:Bs}(hK:∀a b c,K a b->K b c->K a c)
include hK
theorem q64{b d A f Y V B:Nat}{w:qhr}(a:qm qi2 Fz K Stop S (G ((qjm 139).at ⟨tm0 b d A f Y V B,dn b⟩ (.code wLB::jz)) [bot]) w) :qm qi2 Fz K Stop S (born qi2 (q0u b d A f Y V B)) w:=by
 have c:∀w,qj5 qi2 false (born qi2 (q0u b d A f Y V B)) w=.go (G ((qjm 139).at ⟨tm0 b d A f Y V B,[]⟩ [.code (Tryz.f139.body.getD .skip)]) [bot]) w #[]:=by
  intro w;simp[born,q0u,jD,qj5,qmj,qk3,invoke,callFunc,qq5,qmd,seen,qj9,G,qiz,Frame.at,qjm,bot,tm0];rfl
 refine qm.pure hK rfl c ?_;simp only[wLB,jz,qmd,qhC,sqA,sqB,inn] at a ⊢;refine qm.seq hK ?_;refine qm.region hK ?_;simp only[qim,qhE,qi1,qib,qi6,qil,qj2];refine qm.pure hK rfl (λw=>stepG_defer rfl rfl (by k_ne) rfl) ?_;refine qm.region_end hK ?_;refine qm.block hK ?_;refine qm.loop hK ?_;have e:Act.put ⟨tm0 b d A f Y V B,[Go.Conc.dcall 140 (Array.map (Act.eval ⟨tm0 b d A f Y V B,[]⟩) #[Operand.tmp 0])]⟩ none qhx=⟨tm0 b d A f Y V B,dn b⟩:=by
  simp[Act.put,dn,Act.eval,tm0]
 rw[<- e] at a;exact a
end
end
section
open Go Go.RowKit Go.Conc Go.ConcN Go.ConcN.Gen Go.Conc.Lib Go.ConcR.Gen Go.Co Go.Sim
def q8r(T:Array qhu)(a:List qlG):qpf qi2 2 0 (G { (qjm 139).at ⟨T,[]⟩ a with mode:=.returning } [bot]):=by
 refine QuitsD.ctl (g':=G bot []) rfl (λw=>?_) ?_
 ·simp[G,qj5,qmj,qk7,qke,Frame.at,qjm,bot,qq5,qmd,seen,qj9,goexitEntry];try rfl
 refine QuitsD.ctl (g':={ G bot [] with status:=.finished }) rfl (λw=>?_) ⟨rfl,rfl⟩;simp[G,qj5,qmj,bot,goexitEntry,qpq];rfl
section
variable{Fz:Bs}{K:qhr->qhr->Prop}{Stop:Bs->qhw->qhr->Prop}{S:Bs}(hK:∀a b c,K a b->K b c->K a c)
include hK
theorem qdh{Wg:Nat}{w:qhr}(l:qkB 166 Wg w)(j:∀w w₁,K w w₁->LR 166 Wg w w₁)(i:∀g w,qga qi2 166 Wg g w->Stop S g w)(e:Array qhu)(d:List qlG) :qm qi2 Fz K Stop S (G { (qjm 139).at ⟨e,dn Wg⟩ d with mode:=.returning } [bot]) w:=by
 refine qm.pure hK rfl (λw=>stepG_unwind_enter (f:=140) (ds:=[]) rfl Yy.f_done (nm_done link) rfl) ?_;have:=Go.Co.done (L:=link) (Wg:=Wg) (cs:=[bot]) (qt:=2) Yy (c:={ (qjm 139).at ⟨e,[]⟩ d with mode:=.returning }) rfl (q8r e d) w l;exact qm.of_goes2 (λa b h=>j a b h.k) (λw=>LR.refl w) i this
end
end
section
open Go Go.Sim
def lst:List Nat:=[3,4,5,6,7,8,9,10,11,12,13,14,15,16,17,18,19,20,21,22,23,24,25,26,27,28,29,30,31,32,33,34,35,36,37,38,39,40,41,42,43,44,45,46,47,48,49,50,51,52,53,54,55,56,57,58,59,60,61,62,63,64,65,66,67,68,69,70,71,72,73,74,75,76,77,78,79,80,81,82,83,84,85,86,87,88,89,90,91,92,93,94,95,96,97,98,99,100,101,102,103,104,105,106,107,108,109,110,111,112,113,114,115,116,117,118,119,120,121,122,123,124,125,126,127,128,129,130,131,132,133,134,135,136,137,145,146,147,148,149,150,151,152,153,154,155,156,157,158,159,160,161,162,163,164,165,182,188,189,190,191,192,193,194,195,196,197,198,199,200,206,207,208,209,210,211,212,213,214,215,216,217,218,219,220,221,222,223,224,241,242]
noncomputable def ls:Lets:=⟨λf=>lst.contains f,λn=>n == "gladstone/pile.holds",λb a=>biB Ya b a⟩
def qdv{f:Nat}(h:ls.f f=true):f∈lst:=by
 have:lst.contains f=true:=h;simpa using this
def qg0:(lst.all λf=>qdH Ya qi2 ls f)=true:=by kernel_rfl
def qfH:(lst.all λf=>qdH Ya Ya ls f)=true:=by kernel_rfl
def q56:(lst.all λf=>qcl Ya ls f)=true:=by kernel_rfl
def qev(Q:qhF)(s:Lets)(n:String)(t:Nat):Bool:=match Q.info? t with
 | none=>true
 | some i=>match i.methods.find? (·.name == n) with
  | none=>true
  | some m=>m.path.isEmpty && (match m.func with | some (f,b)=>s.f f && (b || (match Q.underlying t with | some (.pointer _)=>false | _=>true)) | none=>false)
def q3H{f:qi4->Option qlD}{d:TypeDesc}{i:qlD}(h:Made.reckon f d=some i):i.methods=#[]:=by
 unfold Made.reckon at h;split at h
 ·obtain⟨j,-,h⟩:=qj3.1 h;split at h
  ·cases h
  ·split at h
   ·cases h
   ·obtain⟨x,-,h⟩:=qj3.1 h;cases h;rfl
  ·obtain⟨x,-,h⟩:=qj3.1 h;cases h;rfl
 ·obtain⟨j,-,h⟩:=qj3.1 h;obtain⟨x,-,h⟩:=qj3.1 h;cases h;rfl
 ·obtain⟨j,-,h⟩:=qj3.1 h;obtain⟨x,-,h⟩:=qj3.1 h;obtain⟨x,-,h⟩:=qj3.1 h;obtain⟨x,-,h⟩:=qj3.1 h;cases h;rfl
 ·obtain⟨j,-,h⟩:=qj3.1 h;obtain⟨x,-,h⟩:=qj3.1 h;cases h;rfl
 ·obtain⟨j,-,h⟩:=qj3.1 h;cases h;rfl
 ·obtain⟨j,-,h⟩:=qj3.1 h;obtain⟨x,-,h⟩:=qj3.1 h;cases h;rfl
 ·unfold Made.reckonStruct at h;obtain⟨r,-,h⟩:=qj3.1 h;split at h<;>(dsimp only at h;split at h<;>(cases h;rfl))
 ·cases h
def q96{P:qhF}{t:Nat}{i:qlD}(h:P.info? t=some i):t<P.types.size\/i.methods=#[]:=by
 by_cases b:t<P.types.size
 ·exact .inl b
 ·have a:Tables.info? P.toTables t=some i:=h;unfold Tables.info? at a;rw[if_neg b] at a;unfold Made.depth Made.infoAt at a;rw[if_neg b] at a;obtain⟨d,-,c⟩:=qj3.1 a;exact .inr (q3H c)
def qh4:((qil Ya.types.size).all (qev Ya ls "gladstone/pile.holds"))=true:=by kernel_rfl
def q7i:∀n,ls.m n=true->∀t i m,Ya.info? t=some i->i.methods.find? (·.name == n)=some m->m.path=#[]/\∃f b,m.func=some (f,b)/\ls.f f=true/\∀e,Ya.underlying t=some (.pointer e)->b=true:=by
 intro n k t i m d c;obtain rfl:n = "gladstone/pile.holds" := by simpa[ls] using k
 have j:t<Ya.types.size:=(q96 d).resolve_right λe=>by rw[e] at c;cases c
 have h:=qiB.1 qh4 t (qjC.2 j);unfold qev at h;rw[d] at h;dsimp only at h;rw[c] at h;dsimp only at h;have⟨p,a⟩:=qqk.1 h;refine⟨by simpa using p,?_⟩;cases hm:m.func with
 | none=>rw[hm] at a;cases a
 | some q=>
  obtain⟨f,b⟩:=q;rw[hm] at a;dsimp only at a;have⟨o,g⟩:=qqk.1 a;refine⟨f,b,rfl,o,λe l=>?_⟩;rw[l] at g;simpa using g
def ne85:Ya.funcs[85]?≠Tryz.prog.funcs[85]?:=by
 intro h;have a:(Ya.funcs[85]?).map (λf=>f.body.isNone || (match f.body with | some (.exit _)=>true | _=>false))=some true:=by kernel_rfl
 rw[h] at a;have b:(Tryz.prog.funcs[85]?).map (λf=>f.body.isNone || (match f.body with | some (.exit _)=>true | _=>false))=some false:=by kernel_rfl
 rw[b] at a;cases a
def zd(f:Nat)(h:f≠85):Ya.funcs[f]?=Tryz.prog.funcs[f]?:=by
 unfold Ya;dsimp only;rw[qiC,if_neg (λe=>h e.symm)]
def qeD(jk:Nat->Prop):@Duo (JS Ya qi2 ls jk) Ya qi2:=by
 refine qcb rfl (by kernel_rfl) (by kernel_rfl) (λb a h=>h) (λf h=>?_) (λf h c=>?_) q7i
 ·exact qiB.1 qg0 f (qdv h)
 ·exact qiB.1 q56 f (qdv h)
def qeC(jk:Nat->Prop):@Duo (JS Ya Ya ls jk) Ya Ya:=by
 refine qcb rfl (by kernel_rfl) (by kernel_rfl) (λb a h=>h) (λf h=>?_) (λf h c=>?_) q7i
 ·exact qiB.1 qfH f (qdv h)
 ·exact qiB.1 q56 f (qdv h)
def qgi(Q P:qhF)(s:Lets)(jk:Nat->Prop):Up (JS Q P s jk) (JS Q Q s jk) :=
 ⟨λ_ h=>h,λ_ h=>h,λ_ _ h=>h,λ_ h=>h,λ_ ⟨⟨g,a,_⟩,b⟩=>⟨⟨g,a,a⟩,b⟩,rfl⟩
def up(jk:Nat->Prop):Up (JS Ya qi2 ls jk) (JS Ya Ya ls jk):=qgi _ _ _ _
def qan:∀c,Ya.funcs[c]?≠Tryz.prog.funcs[c]?->∀a k d u,∃o w i,qj5 Ya true { frame:=qiz Ya c a k,callers:=d,status:=.running,dying:=none } u true=.ended o w i:=by
 intro c h a k d u;have e:c=85:=qj6 λf=>h (zd c f);subst e;have g:(Ya.funcs[85]?).bind (·.body)=some (.exit 0):=by kernel_rfl
 unfold qiz;dsimp only;rw[g];exact⟨_,_,_,rfl⟩
def hrf:Tryz.prog.follows .rangeFuncRecover=true:=by kernel_rfl
end
end Go.Proofs.YtidgnkmjgioapaaGreat
section
namespace Go.Co
open Go Go.Sim
def frz:Obj->Obj
 | .cells c e f=>.cells c e (0,max c.size f.2)
 | _=>.cells #[] 0
noncomputable def JK(Q:qhF)(W:qhr)(nds jks:List Nat)(b:Nat):Obj :=
 if b∈jks then qfw Q else if b∈nds then(match W.heap[b]? with | some o=>frz o | none=>.cells #[] 0) else .cells #[] 0
noncomputable def lw(Q:qhF)(W:qhr)(nds jks:List Nat):qhr:={ W with heap:=(qlE W.heap.size).map (JK Q W nds jks) }
def lr(n:Nat)(nds jks:List Nat):Ren:=(qil n).map λb=>if b∈nds\/b∈jks then some b else none
section
variable{Q:qhF}{W:qhr}{nds jks:List Nat}
def q7j:(lw Q W nds jks).heap.size=W.heap.size:=by simp[lw]
def q2r{b:Nat}(h:b<W.heap.size):(lw Q W nds jks).heap[b]?=some (JK Q W nds jks b):=by simp[lw,h]
def JW{n i j:Nat}:BR (lr n nds jks) i j↔i<n/\i=j/\(i∈nds\/i∈jks):=by
 unfold BR lr;rw[qjE];by_cases h:i<n
 ·rw[qm5 h];simp only[qjh,qiD,h,true_and];split
  ·rename_i hm;simp[hm]
  ·rename_i hm;simp[hm]
 ·rw[qjp (by simp;omega)];simp[h]
def q7l{b:Nat}{a:Array qhu}{e:qi4}{f:Nat × Nat}(d:b∈nds)(c:b∉jks)(h:W.heap[b]?=some (.cells a e f)):(lw Q W nds jks).heap[b]?=some (.cells a e (0,max a.size f.2)):=by
 rw[q2r (qhs.1 h).1];unfold JK;rw[if_neg c,if_pos d,h];rfl
def qgB[J:JunkSet]{w:qhr}(l:∀i,JunkSet.jk i↔i∈jks)(H:Q.globals.size=0)(I:∀b∈nds,b∉jks)(G:∀b∈nds,b<W.heap.size)(B:∀b∈jks,b<W.heap.size)(p:∀b∈nds,∃n e f,W.heap[b]?=some (.cells n e f)/\∀(i:Nat) (v:qhu),n[i]?=some v->VR (lr W.heap.size nds jks) v v)(z:∀b∈nds,w.heap[b]?=W.heap[b]?)(F:W.heap.size<=w.heap.size)(a:w.os=W.os)(q:∀b∈jks,∃c e f,w.heap[b]?=some (.cells c e f)) :WR Q W.heap.size (lr W.heap.size nds jks) (lw Q W nds jks) w where
 len:=by simp[lr,lw]
 nodup:=λi D j h C=>by rw[JW] at h C;omega
 lt:=λi j h=>by rw[JW] at h;omega
 obj:=λi j o h d=>by
  rw[JW] at h;obtain⟨u,rfl,t⟩:=h;rw[q2r u] at d;cases d;by_cases hm:i∈jks
  ·refine .inl ⟨(l i).2 hm,by unfold JK;rw[if_pos hm],by omega,q i hm⟩
  ·have g:i∈nds:=t.resolve_right hm;have⟨n,e,f,s,A⟩:=p i g;refine .inr ⟨λk=>hm ((l i).1 k),.cells n e f,by rw[z i g,s],?_⟩;have:JK Q W nds jks i=.cells n e (0,max n.size f.2):=by
    unfold JK;rw[if_neg hm,if_pos g,s];rfl
   rw[this];exact .cells e ⟨rfl,λk x y d r=>by rw[d] at r;cases r;exact A k x d⟩ λo u t=>by omega
 low:=λi hi=>by
  rw[q2r hi];unfold JK;split
  ·exact⟨_,_,_,rfl,λo a=>by simp at a⟩
  ·split
   ·split
    ·rename_i o a
     cases o with
     | cells c e f=>exact⟨_,_,_,rfl,λo a=>by simp;omega⟩
     | _=>exact⟨_,_,_,rfl,λo a=>by simp at a⟩
    ·exact⟨_,_,_,rfl,λo a=>by simp at a⟩
   ·exact⟨_,_,_,rfl,λo a=>by simp at a⟩
 env:=by show W.os.env=w.os.env;rw[a]
 below:=λi hi=>B i ((l i).1 hi)
 gar:=λi o d=>by
  right;have hi:i<W.heap.size:=by
   have:=(qhs.1 d).1
   rwa [q7j] at this
  rw[q2r hi] at d;cases d;unfold JK;split
  ·rfl
  ·split
   ·split
    ·rename_i o _;cases o<;>rfl
    ·rfl
   ·rfl
end
end Go.Co
namespace Go.Proofs.YtidgnkmjgioapaaGreat
open Go Go.Co Go.Sim
section
variable{Q:qhF}{W:qhr}{nds jks:List Nat}{lo hi:Nat}
def xG{b o:Nat}{a:Array qhu}{e:qi4}{f:Nat × Nat}{v:qhu}(g:b∈nds)(d:b∉jks)(h:W.heap[b]?=some (.cells a e f))(c:a[o]?=some v):(lw Q W nds jks).cell? ⟨b,o,none⟩=some v :=
 q8 (q7l g d h) c
def q7m{v:qhu}{l:List Int}(h:qg lo hi W v l)(i:∀b∈nds,b∉jks)(j:∀B o n c,v=.slice (some ⟨B,o,none⟩) n c->l≠[]->B∈nds):qg lo hi (lw Q W nds jks) v l:=by
 obtain⟨base,d,rfl,g,f⟩:=h;refine⟨base,d,rfl,g,λa=>?_⟩;obtain⟨B,o,s,t,rfl,r,q,p,k⟩:=f a;have e:=j B o _ _ rfl a;exact⟨B,o,s,_,rfl,r,q,q7l e (i B e) p,k⟩
def q7k{v:qhu}{d:List Par}(h:qr lo hi W v d)(j:∀b∈nds,b∉jks)(k:∀B o n c,v=.slice (some ⟨B,o,none⟩) n c->d≠[]->B∈nds):qr lo hi (lw Q W nds jks) v d:=by
 obtain⟨base,e,rfl,i,g⟩:=h;refine⟨base,e,rfl,i,λa=>?_⟩;obtain⟨B,o,s,t,rfl,r,q,p,l⟩:=g a;have f:=k B o _ _ rfl a;exact⟨B,o,s,_,rfl,r,q,q7l f (j B f) p,l⟩
def qbn{v:qhu}{n:Nat}{c:Nat->Nat->Int}(h:vw lo hi W v n c)(k:∀b∈nds,b∉jks)(l:∀B o g c,v=.slice (some ⟨B,o,none⟩) g c->0<n->B∈nds):vw lo hi (lw Q W nds jks) v n c:=by
 obtain⟨base,d,rfl,j,i⟩:=h;refine⟨base,d,rfl,j,λa=>?_⟩;obtain⟨B,o,t,f,u,rfl,s,r,q,p⟩:=i a;have e:=l B o _ _ rfl a;exact⟨B,o,t,f,_,rfl,s,r,q7l e (k B e) q,p⟩
end
end Go.Proofs.YtidgnkmjgioapaaGreat
end
section
namespace Go.Proofs.YtidgnkmjgioapaaGreat
open Go Go.RowKit Go.Conc Go.ConcN Go.ConcN.Gen Go.Conc.Lib Go.ConcR.Gen Go.Co Go.Sim
inductive Lam | st | ld (i:Nat) | wk (i:Nat) | fn
structure Ph4 where
 W1:qhr
 clA:Nat->Cl
 lo:Nat
 Wg:Nat
 Nx:Nat
 A:Nat
 Fd:Nat
 Y:Nat
 V:Nat
 B:Nat
 ps:List Par
 lim:Int
 l:List Int
 wl:List Int
 N:Nat
 c:Nat->Nat->Int
 yb:Option qiG
 yc:Nat
 ab:Option qiG
 ac:Nat
 pv:qhu
 vv:qhu
 nds:List Nat
 Post:qhu->qhr->Prop
 Fin:qhw->qhr->Prop
 AnchW:qhw->qhr->Prop
namespace Ph4
variable(x:Ph4)
def jks:List Nat:=[x.Wg,x.Nx,x.Fd]
def jk(b:Nat):Prop:=b∈x.jks
@[reducible] noncomputable def js:JunkSet:=JS Ya qi2 ls x.jk
def Fz(b:Nat):Prop:=b<x.W1.heap.size/\x.clA b=.ro x.lo
def Sy(b:Nat):Prop:=b=x.Nx\/b=x.Fd
def DataAt(W:Nat × Bool)(w:qhr):Prop:=w.heap[x.Nx]?=some (.cells #[W.1] 158 (0,0))/\w.heap[x.Fd]?=some (.cells #[.int .u32 (if W.2 then 1 else 0)] 161 (0,0))
def Liv(w:qhr):Prop:=qkB 166 x.Wg w/\∃W,x.DataAt W w
def K(w w₁:qhr):Prop:=(qkB 166 x.Wg w->qkB 166 x.Wg w₁)/\((∃W,x.DataAt W w)->∃W,x.DataAt W w₁)
def gn:Nat->Int:=pre Par.mn x.ps x.ps.length
def gx:Nat->Int:=pre Par.mx x.ps x.ps.length
def bad(i:Nat):Bool:=qx x.ps (ovr (x.c i) x.gn x.wl x.wl.length) x.l && !qx x.ps (ovr (x.c i) x.gx x.wl x.wl.length) x.l
noncomputable def w0:qhr:=lw Ya x.W1 x.nds x.jks
def r0:Ren:=Go.Co.lr x.W1.heap.size x.nds x.jks
def tmp0:Array qhu:=tm0 x.Wg x.Nx x.A x.Fd x.Y x.V x.B
structure Ok:Prop where
 hlo:1<=x.lo
 hY:x.W1.heap[x.Y]?=some (.cells #[.slice x.yb x.ps.length x.yc,x.lim] 91 (0,0))
 hV:x.W1.heap[x.V]?=some (.cells #[x.vv] 29 (0,0))
 hB:x.W1.heap[x.B]?=some (.cells #[x.pv] 29 (0,0))
 hA:x.W1.heap[x.A]?=some (.cells #[.slice x.ab x.N x.ac] 152 (0,0))
 pars:qr 0 x.W1.heap.size x.W1 (.slice x.yb x.ps.length x.yc) x.ps
 ints:qg 0 x.W1.heap.size x.W1 x.vv x.wl
 intp:qg 0 x.W1.heap.size x.W1 x.pv x.l
 cas:vw 0 x.W1.heap.size x.W1 (.slice x.ab x.N x.ac) x.N x.c
 n5:x.ps.length<=5
 bmn:∀i,0<=x.gn i/\x.gn i<=1000
 bmx:∀i,0<=x.gx i/\x.gx i<=1000
 bc:∀i d,0<=x.c i d/\x.c i d<=1000
 hl:∀y∈x.l,0<=y/\y<x.ps.length
 ll:x.l.length<=1000
 hwl:∀y∈x.wl,0<=y/\y<5
 hN:x.N<=900000
 jlt:∀b∈x.jks,b<x.W1.heap.size
 ne1:x.Nx≠x.Fd
 ne2:x.Wg≠x.Nx
 ne3:x.Wg≠x.Fd
 sync:∀b∈x.jks,x.clA b=.sync
 nro:∀b∈x.nds,x.clA b=.ro x.lo
 nok:∀b∈x.nds,∃cs e f,x.W1.heap[b]?=some (.cells cs e f)/\∀(i:Nat) (v:qhu),cs[i]?=some v->@VR x.js x.r0 v v
 n0:0∈x.nds
 nY:x.Y∈x.nds
 nV:x.V∈x.nds
 nB:x.B∈x.nds
 nA:x.A∈x.nds
 nyb:∀B o n c,qjc x.yb x.ps.length x.yc=.slice (some ⟨B,o,none⟩) n c->x.ps≠[]->B∈x.nds
 nvv:∀B o n c,x.vv=.slice (some ⟨B,o,none⟩) n c->x.wl≠[]->B∈x.nds
 npv:∀B o n c,x.pv=.slice (some ⟨B,o,none⟩) n c->x.l≠[]->B∈x.nds
 nab:∀B o n c,qjc x.ab x.N x.ac=.slice (some ⟨B,o,none⟩) n c->0<x.N->B∈x.nds
 cla0:∀b,x.W1.heap.size<=b->x.clA b=.mine 0
structure Cm(w:qhr):Prop where
 liv:x.Liv w
 fz:∀b,x.Fz b->w.heap[b]?=x.W1.heap[b]?
 size:x.W1.heap.size<=w.heap.size
 os:w.os=x.W1.os
structure Wk(S:Bs)(Z:Ren)(a:Act)(tm:Array qhu)(wq w:qhr):Prop where
 rel:@qg7 x.js Ya qi2 x.W1.heap.size x.Fz S x.jk (λb=>b<x.W1.heap.size) Z a tm wq w
 le:Le x.r0 Z
 gr:x.w0.grownBy (wq.tp x.w0.tape) none
 sz:a.tmps.size=60
 cap:∀k,k<7->a.tmps[k]?=x.tmp0[k]?
def WA(l:Lam)(S:Bs)(g:qhw)(w:qhr):Prop:=x.Cm w/\match l with
 | .st=>(g=born qi2 (q0u x.Wg x.Nx x.A x.Fd x.Y x.V x.B)/\∀b,¬ S b) \/
   ∃Z a c d,x.Wk S Z a c d w/\g=G ((qij 143).at ⟨#[pt x.Fd,.bool true,qhx,qhx,pt x.Fd,pt x.Fd,pt x.Fd,.bool true,.int .u32 1,.tuple #[]],[]⟩ [.inRegion Y7 []]) [f10 c (dn x.Wg),bot]
 | .ld i=>i<x.N/\∃Z a c d,x.Wk S Z a c d w/\g=G ((qij 141).at ⟨#[pt x.Nx,.int .i64 1,qhx,qhx,.int .i64 0,pt x.Nx,pt x.Nx,pt x.Nx,.int .i64 1,.int .i64 (i+1)],[]⟩ [.inRegion Zn [5],.code .ret]) [f1 c (dn x.Wg),bot]
 | .wk i=>i<x.N/\∃Z a c d,x.Wk S Z a c d w/\a.tmps[7]?=some (.int .i64 i)/\a.tmps[18]?=some (.bool false)/\g=G ((qij 142).at ⟨#[pt x.Fd,qhx,.bool false,pt x.Fd,pt x.Fd,pt x.Fd,.int .u32 0,qhx],[]⟩ [.inRegion Zm [4,5],.code .ret]) [f2 c (dn x.Wg),bot]
 | .fn=>∃Z a c d,x.Wk S Z a c d w/\((∃i:Nat,x.N<=i/\i<=1000000/\g=G ((qij 141).at ⟨#[pt x.Nx,.int .i64 1,qhx,qhx,.int .i64 0,pt x.Nx,pt x.Nx,pt x.Nx,.int .i64 1,.int .i64 (i+1)],[]⟩ [.inRegion Zn [5],.code .ret]) [f1 c (dn x.Wg),bot]) \/
   (a.tmps[18]?=some (.bool false)/\g=G ((qij 142).at ⟨#[pt x.Fd,qhx,.bool false,pt x.Fd,pt x.Fd,pt x.Fd,.int .u32 1,qhx],[]⟩ [.inRegion Zm [4,5],.code .ret]) [f2 c (dn x.Wg),bot]))
def fin:Lam->Prop | .fn=>True | _=>False
def Tr(W:Nat × Bool)(l:Lam)(γ':Nat × Bool)(a:Lam):Prop :=
 ((l=.st\/∃i,l=.wk i/\x.bad i=false)/\γ'=(W.1+1,W.2)/\a=(if W.1<x.N then .ld W.1 else .fn)) \/
 (∃i,l=.ld i/\γ'=W/\a=(if W.2 then .fn else .wk i)) \/
 (∃i,l=.wk i/\x.bad i=true/\i<x.N/\γ'=(W.1,true)/\a=.st)
def Y9:Lam->Bool | .fn=>true | _=>false
def xM:Nat->(Nat->Lam)->Nat
 | 0,_=>0
 | j+1,ls=>xM j ls+(if Y9 (ls j) then 1 else 0)
def J(W:Nat × Bool)(j:Nat)(ls:Nat->Lam):Prop :=
 W.1<=x.N+xM j ls/\(W.2=true->∃i,i<x.N/\x.bad i=true)/\(W.2=false->∀i,i<x.N->i<W.1->x.bad i=false\/∃k,k<j/\(ls k=.ld i\/ls k=.wk i))/\(∀k,k<j->ls k=.fn->W.2=true\/x.N<=W.1)
def m(W:Nat × Bool):Nat:=3*(x.N - W.1)
def nu:Lam->Nat | .fn=>0 | .st=>1 | .wk _=>2 | .ld _=>3
noncomputable def cfg:Cfg (Nat × Bool) Lam where
 P:=qi2
 ty:=166
 Wg:=x.Wg
 lo:=x.lo
 n:=min 4 x.N
 Fz:=x.Fz
 Sy:=x.Sy
 clA:=x.clA
 DataAt:=x.DataAt
 WA:=x.WA
 Tr:=x.Tr
 J:=x.J
 m:=x.m
 nu:=nu
 l0:=.st
 fin:=fin
 W1:=x.W1
 Fin:=x.Fin
 AnchW:=x.AnchW
 Post:=x.Post
end Ph4
end Go.Proofs.YtidgnkmjgioapaaGreat
end
section
namespace Go.Proofs.YtidgnkmjgioapaaGreat
open Go Go.RowKit Go.Conc Go.ConcN Go.ConcN.Gen Go.Conc.Lib Go.ConcR.Gen Go.Co Go.Sim
namespace Ph4
section
variable{x:Ph4}{S:Bs}{w w₁:qhr}{Z:Ren}{a:Act}{tm:Array qhu}{wq:qhr}
def kt:∀a b c,x.cfg.K a b->x.cfg.K b c->x.cfg.K a c:=Cfg.K.trans
def Cm.rely(h:x.Cm w)(r:RC x.Fz x.cfg.K S w w₁):x.Cm w₁ :=
 ⟨⟨r.k.1 h.liv.1,r.k.2 h.liv.2⟩,λb c=>(r.fz b c).t (h.fz b c),qhB h.size r.size,r.os.trans h.os⟩
def Liv.cells(h:x.Liv w){b:Nat}(d:b∈x.jks):∃c e f,w.heap[b]?=some (.cells c e f):=by
 obtain⟨⟨l,n,i⟩,W,k,j⟩:=h;unfold jks at d;simp only[qjr,qjG,or_false] at d;rcases d with rfl | rfl | rfl
 ·exact⟨_,_,_,i⟩
 ·exact⟨_,_,_,k⟩
 ·exact⟨_,_,_,j⟩
def Wk.to(h:x.Wk S Z a tm wq w)(g:∀b,x.Fz b\/S b->w₁.heap[b]?=w.heap[b]?)(k:w.heap.size<=w₁.heap.size)(l:w₁.os=w.os)(n:x.Liv w₁):x.Wk S Z a tm wq w₁:=by
 letI:JunkSet:=x.js
 exact{ h with rel:=⟨h.rel.len,h.rel.wr.rely k (by rw[l]) (λi j c d=>by
    rcases qjy i x.W1.heap.size with e | f
    ·exact g j (.inl (h.rel.own.low i j c e d))
    ·exact g j (.inr (h.rel.own.own i j c f))) (λi j c d=>n.cells (h.rel.jb i j c d)),h.rel.gl,h.rel.tm,h.rel.df,h.rel.own,h.rel.jb,h.rel.js⟩ }
def Wk.rely(h:x.Wk S Z a tm wq w)(c:x.Cm w)(r:RC x.Fz x.cfg.K S w w₁):x.Wk S Z a tm wq w₁ :=
 h.to (λb d=>d.elim (r.fz b) (r.own b)) r.size r.os (c.rely r).liv
def Wk.set(h:x.Wk S Z a tm wq w)(i:Nat)(d:7<=i){u v:qhu}(b:@VR x.js Z u v):x.Wk S Z ⟨a.tmps.setIfInBounds i u,a.defers⟩ (tm.setIfInBounds i v) wq w:=by
 letI:JunkSet:=x.js
 exact{ h with
  rel:=⟨h.rel.len,h.rel.wr,h.rel.gl,@AsR.set x.js _ _ _ h.rel.tm i _ _ b,h.rel.df,h.rel.own,h.rel.jb,h.rel.js⟩
  sz:=by simp[h.sz]
  cap:=λk c=>by
   show(a.tmps.setIfInBounds i u)[k]?=_;rw[qjb (by omega)];exact h.cap k c }
def br0{b:Nat}(d:b∈x.nds\/b∈x.jks)(c:b<x.W1.heap.size):BR x.r0 b b:=JW.2 ⟨c,rfl,d⟩
def Wk.ptr(h:x.Wk S Z a tm wq w){k b:Nat}(i:a.tmps[k]?=some (pt b))(j:BR x.r0 b b):tm[k]?.getD qhx=pt b:=by
 letI:JunkSet:=x.js
 have⟨y,g,e⟩:=@AsR.get x.js _ _ _ h.rel.tm k _ i;rw[g];unfold pt at e ⊢;cases e with
 | ptr f d c=>rw[BR.fn c (j.mono h.le)];rfl
def Wk.bool(h:x.Wk S Z a tm wq w){k:Nat}{t:Bool}(d:a.tmps[k]?=some (.bool t)):tm[k]?.getD qhx=.bool t:=by
 letI:JunkSet:=x.js
 have⟨y,b,c⟩:=@AsR.get x.js _ _ _ h.rel.tm k _ d;rw[b];cases c;rfl
def Wk.tsz(h:x.Wk S Z a tm wq w):tm.size=60:=by
 letI:JunkSet:=x.js
 have b:=h.rel.tm.1;rw[<- b];exact h.sz
def Ok.fz(o:x.Ok){b:Nat}(c:b∈x.nds):x.Fz b:=by
 have⟨d,e,f,h,_⟩:=o.nok b c;exact⟨(qhs.1 h).1,o.nro b c⟩
def Ok.dj(o:x.Ok):∀b∈x.nds,b∉x.jks:=λb e d=>by
 have c:=o.nro b e;rw[o.sync b d] at c;cases c
def Ok.ndlt(o:x.Ok){b:Nat}(c:b∈x.nds):b<x.W1.heap.size:=(o.fz c).1
def Ok.t1(o:x.Ok)(h:x.Wk S Z a tm wq w):tm[1]?.getD qhx=pt x.Nx:=h.ptr ((h.cap 1 (by omega)).t (by simp[tmp0,tm0,qlh])) (br0 (.inr (by simp[jks])) (o.jlt _ (by simp[jks])))
def Ok.t2(o:x.Ok)(h:x.Wk S Z a tm wq w):tm[2]?.getD qhx=pt x.A:=h.ptr ((h.cap 2 (by omega)).t (by simp[tmp0,tm0,qlh])) (br0 (.inl o.nA) (o.ndlt o.nA))
def Ok.t3(o:x.Ok)(h:x.Wk S Z a tm wq w):tm[3]?.getD qhx=pt x.Fd:=h.ptr ((h.cap 3 (by omega)).t (by simp[tmp0,tm0,qlh])) (br0 (.inr (by simp[jks])) (o.jlt _ (by simp[jks])))
def Ok.cellA(o:x.Ok)(h:x.Cm w):w.cell? x.A=some (.slice x.ab x.N x.ac):=q8 ((h.fz _ (o.fz o.nA)).t o.hA) rfl
def Ok.vrA(o:x.Ok):@VR x.js x.r0 (.slice x.ab x.N x.ac) (.slice x.ab x.N x.ac):=by
 have⟨c,e,f,h,b⟩:=o.nok _ o.nA;rw[o.hA] at h;cases h;exact b 0 _ rfl
end
end Ph4
end Go.Proofs.YtidgnkmjgioapaaGreat
end
section
namespace Go.Proofs.YtidgnkmjgioapaaGreat
open Go Go.RowKit Go.Conc Go.ConcN Go.ConcN.Gen Go.Conc.Lib Go.ConcR.Gen Go.Co Go.Sim
def Qu{w:qhr}{b o:Nat}{c:Array qhu}{e:qi4}(h:w.heap[b]?=some (.cells c e (0,0))):w.frozen? ⟨b,o,none⟩=false:=by
 simp[qlt,h]
def qdy{n:Nat}(h:n<=1000001):IntKind.i64.wrap (n:Int)=n:=qin _ (by omega)
namespace Ph4
def qe9(j:Nat)(ls:Nat->Lam):xM j ls<=j:=by
 induction j with
 | zero=>exact qhv _
 | succ j b=>unfold xM;split<;>omega
section
variable{x:Ph4}(o:x.Ok){S:Bs}{w:qhr}{Z:Ren}{a:Act}{tm:Array qhu}{wq:qhr}
include o
theorem Ok.fzne{b:Nat}(d:x.Fz b){j:Nat}(c:j∈x.jks):b≠j:=by
 rintro rfl;have h:=d.2;rw[o.sync _ c] at h;cases h
theorem Ok.after(e:x.Cm w){b:Nat}(f:b=x.Nx\/b=x.Fd)(v:qhu){γ':Nat × Bool}(j:x.DataAt γ' (w.setCell b v)):x.Cm (w.setCell b v) where
 liv:=by
  have⟨g,h,i⟩:=e.liv.1;refine⟨⟨g,h,?_⟩,γ',j⟩;show(w.setCell b v).heap[x.Wg]?=_;rw[qlq _ _ _ _ (by rcases f with rfl | rfl;exact o.ne2;exact o.ne3)];exact i
 fz:=λc d=>by
  rw[qlq _ _ _ _ (o.fzne d (by rcases f with rfl | rfl<;>simp[jks]))];exact e.fz c d
 size:=by simpa using e.size
 os:=e.os
theorem Ok.wkafter(i:x.Cm w)(h:x.Wk S Z a tm wq w){b:Nat}(g:b=x.Nx\/b=x.Fd)(v:qhu)(f:x.Liv (w.setCell b v)):x.Wk S Z a tm wq (w.setCell b v):=by
 letI:JunkSet:=x.js
 have e:b∈x.jks:=by rcases g with rfl | rfl<;>simp[jks]
 refine h.to (λc d=>?_) (by simp) rfl f;refine qlq _ _ _ _ ?_;rcases d with d | d
 ·exact o.fzne d e
 ·rintro rfl;exact h.rel.js _ (o.jlt _ e) d
theorem Ok.sync1{l:Lam}(t:l=.st\/∃i,l=.wk i/\x.bad i=false)(v:x.Cm w)(h:x.Wk S Z a tm wq w) :x.cfg.Stop l S (G ((qij 141).at ⟨#[pt x.Nx,.int .i64 1,qhx,qhx,.int .i64 0,pt x.Nx,pt x.Nx,pt x.Nx,.int .i64 1,qhx],[]⟩ [.inRegion Zn [4,5],.code .ret]) (f1 tm (dn x.Wg)::[bot])) w:=by
 refine⟨rfl,.inr ⟨by rcases t with rfl | ⟨i,rfl,_⟩<;>exact id,?_⟩⟩;rintro⟨c,b⟩ B ⟨j,ls,z,hJ⟩;have hγ:c<=x.N+4:=by
  have I:c<=x.N+xM j ls:=hJ.1;have F:=qe9 j ls;have H:j<=min 4 x.N:=z;omega
 have D:=o.hN;obtain⟨s,C⟩:=B;have d:w.cell? x.Nx=some (.int .i64 c):=q8 s rfl;have y:=Qu (o:=0) s;have p:IntKind.i64.wrap ((c:Int)+1)=c+1:=by have:=qdy (n:=c+1) (by omega);simpa using this
 have k:x.DataAt (c+1,b) (w.setCell x.Nx (.int .i64 (c+1))):=by
  refine⟨?_,?_⟩
  ·rw[qpn _ _ _ _ _ _ s];simp
  ·rw[qlq _ _ _ _ (Ne.symm o.ne1)];exact C
 have f:=o.after v (.inl rfl) (.int .i64 (c+1)) k;have g:=o.wkafter v h (.inl rfl) (.int .i64 (c+1)) f.liv;refine⟨G ((qij 141).at ⟨#[pt x.Nx,.int .i64 1,qhx,qhx,.int .i64 0,pt x.Nx,pt x.Nx,pt x.Nx,.int .i64 1,.int .i64 (c+1)],[]⟩ [.inRegion Zn [5],.code .ret]) (f1 tm (dn x.Wg)::[bot]),w.setCell x.Nx (.int .i64 (c+1)),#[⟨.cell ⟨x.Nx,0,none⟩,false,true⟩,⟨.cell ⟨x.Nx,0,none⟩,true,true⟩],(c+1,b),if c<x.N then .ld c else .fn,?_,λc r=>qlq _ _ _ _ λe=>r (.inl e),by simp,rfl,rfl,?_,k,.inl ⟨t,rfl,rfl⟩,?_⟩
 ·refine(qmb (o:=Zn[4]'(by simp only[Zn,qoC,qhC,sqA,sqB,qM];decide)) (by simp) (by simp only[Zn,qoC,qhC,sqA,sqB,qM];rfl) (by k_ne) (by simp only[Zn,qoC,qhC,sqA,sqB,qM];rfl) Tryz.func179 (by kernel_rfl) (by kernel_rfl) (by kernel_rfl) .i64 (by kernel_rfl) rfl rfl d y).trans ?_;rw[p];simp only[Zn,qoC,qhC,sqA,sqB,qM];rfl
 ·intro e u;simp at u;rcases u with rfl | rfl
  ·exact⟨_,_,rfl,.inl rfl⟩
  ·exact⟨_,_,rfl,.inl rfl⟩
 ·show x.WA _ _ _ _;split
  ·rename_i q
   exact⟨f,q,Z,a,tm,wq,g,rfl⟩
  ·rename_i A
   exact⟨f,Z,a,tm,wq,g,.inl ⟨c,by omega,by omega,rfl⟩⟩
theorem Ok.sync2{i:Nat}(p:i<x.N)(n:x.Cm w)(h:x.Wk S Z a tm wq w)(r:a.tmps[7]?=some (.int .i64 i))(f:a.tmps[18]?=some (.bool false)) :x.cfg.Stop (.ld i) S (G ((qij 142).at ⟨#[pt x.Fd,qhx,.bool false,pt x.Fd,pt x.Fd,pt x.Fd,qhx,qhx],[]⟩ [.inRegion Zm [3,4,5],.code .ret]) (f2 tm (dn x.Wg)::[bot])) w:=by
 refine⟨rfl,.inr ⟨id,?_⟩⟩;rintro⟨c,b⟩ l ⟨j,ls,t,hJ⟩;have g:=l;obtain⟨u,s⟩:=l;have d:w.cell? x.Fd=some (.int .u32 (if b then 1 else 0)):=q8 s rfl;refine⟨G ((qij 142).at ⟨#[pt x.Fd,qhx,.bool false,pt x.Fd,pt x.Fd,pt x.Fd,.int .u32 (if b then 1 else 0),qhx],[]⟩ [.inRegion Zm [4,5],.code .ret]) (f2 tm (dn x.Wg)::[bot]),w,#[⟨.cell ⟨x.Fd,0,none⟩,false,true⟩],(c,b),if b then .fn else .wk i,?_,λc q=>rfl,rfl,rfl,rfl,?_,g,.inr (.inl ⟨i,rfl,rfl,rfl⟩),?_⟩
 ·refine(qmn (o:=Zm[3]'(by simp only[Zm,qod,qhC,sqA,sqB,qM];decide)) (by simp) (by simp only[Zm,qod,qhC,sqA,sqB,qM];rfl) (by k_ne) (by simp only[Zm,qod,qhC,sqA,sqB,qM];rfl) Tryz.func180 (by kernel_rfl) (by kernel_rfl) (by kernel_rfl) .u32 (by kernel_rfl) rfl d).trans ?_;simp only[Zm,qod,qhC,sqA,sqB,qM];rfl
 ·intro e k;simp at k;subst k;exact⟨_,_,rfl,.inr rfl⟩
 ·show x.WA _ _ _ _;cases b with
  | true=>exact⟨n,Z,a,tm,wq,h,.inr ⟨f,rfl⟩⟩
  | false=>exact⟨n,p,Z,a,tm,wq,h,r,f,rfl⟩
theorem Ok.sync3{i:Nat}(s:i<x.N)(u:x.bad i=true)(q:x.Cm w)(h:x.Wk S Z a tm wq w) :x.cfg.Stop (.wk i) S (G ((qij 143).at ⟨#[pt x.Fd,.bool true,qhx,qhx,pt x.Fd,pt x.Fd,pt x.Fd,.bool true,.int .u32 1,qhx],[]⟩ [.inRegion Y7 [5]]) (f10 tm (dn x.Wg)::[bot])) w:=by
 refine⟨rfl,.inr ⟨id,?_⟩⟩;rintro⟨c,b⟩ t ⟨j,ls,y,hJ⟩;obtain⟨v,n⟩:=t;have d:w.cell? x.Fd=some (.int .u32 (if b then 1 else 0)):=q8 n rfl;have r:=Qu (o:=0) n;have f:x.DataAt (c,true) (w.setCell x.Fd (.int .u32 1)):=by
  refine⟨?_,?_⟩
  ·rw[qlq _ _ _ _ o.ne1];exact v
  ·rw[qpn _ _ _ _ _ _ n];simp
 have g:=o.after q (.inr rfl) (.int .u32 1) f;have k:=o.wkafter q h (.inr rfl) (.int .u32 1) g.liv;refine⟨G ((qij 143).at ⟨#[pt x.Fd,.bool true,qhx,qhx,pt x.Fd,pt x.Fd,pt x.Fd,.bool true,.int .u32 1,.tuple #[]],[]⟩ [.inRegion Y7 []]) (f10 tm (dn x.Wg)::[bot]),w.setCell x.Fd (.int .u32 1),#[⟨.cell ⟨x.Fd,0,none⟩,true,true⟩],(c,true),.st,?_,λc l=>qlq _ _ _ _ λe=>l (.inr e),by simp,rfl,rfl,?_,f,.inr (.inr ⟨i,rfl,u,s,rfl,rfl⟩),?_⟩
 ·refine(stepG_store_atomic (o:=Y7[5]'(by simp only[Y7,qpb,qhC,sqA,sqB,qM];decide)) (by simp) (by simp only[Y7,qpb,qhC,sqA,sqB,qM];rfl) (by k_ne) (by simp only[Y7,qpb,qhC,sqA,sqB,qM];rfl) Tryz.func181 (by kernel_rfl) (by kernel_rfl) (by kernel_rfl) (by kernel_rfl) rfl rfl d r).trans ?_;simp only[Y7,qpb,qhC,sqA,sqB,qM];rfl
 ·intro e p;simp at p;subst p;exact⟨_,_,rfl,.inr rfl⟩
 ·exact(⟨g,.inr ⟨Z,a,tm,wq,k,rfl⟩⟩:x.WA .st S _ _)
end
end Ph4
end Go.Proofs.YtidgnkmjgioapaaGreat
end
section
namespace Go.Proofs.YtidgnkmjgioapaaGreat
open Go Go.RowKit Go.Conc Go.ConcN Go.ConcN.Gen Go.Conc.Lib Go.ConcR.Gen Go.Co Go.Sim
def qcu[JunkSet]{Z:Ren}{t:Array qhu}(h:∀v∈t,VR Z v v):AsR Z t t:=⟨rfl,λi u v c b=>by
 rw[c] at b;cases b;exact h u (qjB c)⟩
def qgh:wX=.seq wR3 (.seq wR4 (.seq wR9 q3a)):=by kernel_rfl
def ck3:kr Ya ls wR3=true:=by kernel_rfl
def ck4:kr Ya ls wR4=true:=by kernel_rfl
def ck9:kr Ya ls wR9=true:=by kernel_rfl
def hrr(c:qhG):qik c [bot]=none:=by
 unfold qik;split
 ·rename_i h
  cases h;simp[bot,goexitEntry]
 ·rename_i h
  cases h;have:qik bot []=none:=by
   unfold qik;rfl
  rw[this];rfl
 ·rfl
namespace Ph4
section
variable{x:Ph4}(o:x.Ok){S:Bs}{w:qhr}{Z:Ren}{a:Act}{tm:Array qhu}{wq:qhr}
include o
theorem Ok.born(f:x.Cm w)(n:∀b,¬ S b):x.Wk S x.r0 ⟨x.tmp0,[]⟩ x.tmp0 x.w0 w:=by
 letI:JunkSet:=x.js
 refine⟨⟨by simp[r0,Go.Co.lr],?_,λi p=>?_,?_,rfl,⟨λi j h _ g=>?_,λi j h c=>?_⟩,λi j h g=>?_,λj _=>n j⟩,Le.refl _,qhD _ _,by simp[tmp0,tm0],λ_ _=>rfl⟩
 ·exact qgB (λi=>Iff.rfl) (by kernel_rfl) o.dj (λb c=>o.ndlt c) o.jlt o.nok (λb c=>f.fz b (o.fz c)) f.size f.os λb c=>f.liv.cells c
 ·have q:Tryz.prog.globals.size=0:=by kernel_rfl
  have:i=0:=by omega
  subst this;exact br0 (.inl o.n0) (o.ndlt o.n0)
 ·refine qcu λv k=>?_;have d:∀b,b∈x.nds\/b∈x.jks->VR x.r0 (pt b) (pt b):=λb c=>.ptr 0 none (br0 c (c.elim (λh=>o.ndlt h) λh=>o.jlt _ h));simp only[tmp0,tm0,ql9,Array.mem_replicate,qlb,qjr,qjG,or_false] at k;rcases k with(rfl | rfl | rfl | rfl | rfl | rfl | rfl) | ⟨_,rfl⟩
  ·exact d _ (.inr (by simp[jks]))
  ·exact d _ (.inr (by simp[jks]))
  ·exact d _ (.inl o.nA)
  ·exact d _ (.inr (by simp[jks]))
  ·exact d _ (.inl o.nY)
  ·exact d _ (.inl o.nV)
  ·exact d _ (.inl o.nB)
  ·exact kC _
 ·obtain⟨l,rfl,e⟩:=JW.1 h;rcases e with e | e
  ·exact o.fz e
  ·exact absurd e g
 ·obtain⟨l,rfl,e⟩:=JW.1 h;omega
 ·obtain⟨l,rfl,e⟩:=JW.1 h;exact g
theorem Ok.piece{d:Bs->qhw->qhr->Prop}(hSo:∀S g w t,d S g w->d S { g with offers:=t } w){c:qkh}(hco:kr Ya ls c=true){k:List qlG}(hc:x.Cm w)(h:x.Wk S Z a tm wq w){R:Act->qhr->Prop}(hwp:∀T,c.wp Ya (yt R) a (wq.tp T))(hR:∀f u,R f u->f.defers=[]/\f.tmps.size=60/\(∀k,k<7->f.tmps[k]?=x.tmp0[k]?)/\x.w0.gb (u.tp x.w0.tape) none)(hend:∀s ρ' f j i l,R f i->x.Cm l->x.Wk s ρ' f j i l->qm qi2 x.Fz x.cfg.K d s (G ((qjm 139).at ⟨j,dn x.Wg⟩ k) [bot]) l) :qm qi2 x.Fz x.cfg.K d S (G ((qjm 139).at ⟨tm,dn x.Wg⟩ (.code c::k)) [bot]) w:=by
 letI:JunkSet:=x.js
 refine qm.piece (J:=x.js) (qeD x.jk) (X:=⟨JS Ya Ya ls x.jk⟩) (up x.jk) (qeC x.jk) hrf hrr qan x.jk (λb=>b<x.W1.heap.size) x.Cm (λS w w₁ r e=>e.rely r) (λS w l L A q e=>?_) (λw b e n=>e.liv.cells n) (λw b e n=>qi0 n e.size) hSo (b:=qjm 139) ?_ (by kernel_rfl) rfl (q54 (λ_ h=>h) (λ_ h=>h) (λ_ _ h=>h) hco) h.rel hc hwp (λf u p=>(hR f u p).1) ?_
 ·refine⟨⟨?_,?_⟩,λb n=>(q b n.1).trans (e.fz b n),qhB e.size A.size,A.os.trans e.os⟩
  ·have⟨C,D,F⟩:=e.liv.1;exact⟨C,D,(q _ (o.jlt _ (by simp[jks]))).trans F⟩
  ·have⟨W,B,z⟩:=e.liv.2;exact⟨W,(q _ (o.jlt _ (by simp[jks]))).trans B,(q _ (o.jlt _ (by simp[jks]))).trans z⟩
 ·refine⟨_,(zd 139 (by decide)).trans qq5,qq5⟩
 ·intro ρ' f j i l s p v hrel y;have⟨B,z,I,H⟩:=hR _ _ p;exact hend s ρ' f j i l p y ⟨hrel,h.le.trans v,H,z,I⟩
end
end Ph4
end Go.Proofs.YtidgnkmjgioapaaGreat
end
section
namespace Go.Proofs.YtidgnkmjgioapaaGreat
open Go Go.RowKit Go.Conc Go.ConcN Go.ConcN.Gen Go.Conc.Lib Go.ConcR.Gen Go.Co Go.Sim
def qcv(z:Array qhu)(h:z.size=60):z=#[z[0]?.getD qhx,z[1]?.getD qhx,z[2]?.getD qhx,z[3]?.getD qhx,z[4]?.getD qhx,z[5]?.getD qhx,z[6]?.getD qhx,z[7]?.getD qhx,z[8]?.getD qhx,z[9]?.getD qhx,z[10]?.getD qhx,z[11]?.getD qhx,z[12]?.getD qhx,z[13]?.getD qhx,z[14]?.getD qhx,z[15]?.getD qhx,z[16]?.getD qhx,z[17]?.getD qhx,z[18]?.getD qhx,z[19]?.getD qhx,z[20]?.getD qhx,z[21]?.getD qhx,z[22]?.getD qhx,z[23]?.getD qhx,z[24]?.getD qhx,z[25]?.getD qhx,z[26]?.getD qhx,z[27]?.getD qhx,z[28]?.getD qhx,z[29]?.getD qhx,z[30]?.getD qhx,z[31]?.getD qhx,z[32]?.getD qhx,z[33]?.getD qhx,z[34]?.getD qhx,z[35]?.getD qhx,z[36]?.getD qhx,z[37]?.getD qhx,z[38]?.getD qhx,z[39]?.getD qhx,z[40]?.getD qhx,z[41]?.getD qhx,z[42]?.getD qhx,z[43]?.getD qhx,z[44]?.getD qhx,z[45]?.getD qhx,z[46]?.getD qhx,z[47]?.getD qhx,z[48]?.getD qhx,z[49]?.getD qhx,z[50]?.getD qhx,z[51]?.getD qhx,z[52]?.getD qhx,z[53]?.getD qhx,z[54]?.getD qhx,z[55]?.getD qhx,z[56]?.getD qhx,z[57]?.getD qhx,z[58]?.getD qhx,z[59]?.getD qhx]:=by
 obtain⟨y0,y1,y2,y3,y4,y5,y6,y7,y8,y9,c3,b9,b8,b7,b6,b0,a9,a8,a7,a6,Y,X,W,V,U,T,R,Q,P,O,N,M,L,I,H,G,F,D,C,B,A,y,v,u,t,s,r,q,p,n,l,k,j,i,g,f,e,d,c,b,rfl⟩:=Ke z h;rfl
def q4s{w0 wq c:qhr}{T:Nat->qk5->Nat}(h:w0.gb (wq.tp w0.tape) none)(b:(wq.tp T).gb c none):w0.gb (c.tp w0.tape) none :=
 ⟨b.os.trans h.os,rfl,b.output.trans h.output,qhB h.size b.size,λk e d=>(b.block k (qi0 e h.size) d).t (h.block k e d)⟩
def qbD{w0 wq:qhr}(T:Nat->qk5->Nat)(h:w0.gb (wq.tp w0.tape) none):(w0.tp T).gb (wq.tp T) none:=⟨h.os,rfl,h.output,h.size,h.block⟩
def qgH{w0 b:qhr}{T:Nat->qk5->Nat}(h:(w0.tp T).gb b none):w0.gb (b.tp w0.tape) none:=⟨h.os,rfl,h.output,h.size,h.block⟩
def qck{z b:Array qhu}(e:z.size=60)(d:∀k,k<7->z[k]?=b[k]?)(k:Nat)(c:k<7):b[k]?=some (z[k]?.getD qhx):=by
 rw[<- d k c,qih (by omega)];rfl
namespace Ph4
section
variable{x:Ph4}(o:x.Ok){S:Bs}{w:qhr}{Z:Ren}{a:Act}{tm:Array qhu}{wq:qhr}
structure Base(x:Ph4)(i:Nat)(a:Act)(u:qhr):Prop where
 df:a.defers=[]
 sz:a.tmps.size=60
 cap:∀k,k<7->a.tmps[k]?=x.tmp0[k]?
 gr:x.w0.grownBy (u.tp x.w0.tape) none
 i7:a.tmps[7]?=some (.int .i64 i)
def Rows(x:Ph4)(g h:Nat->Int)(a:Act)(u:qhr):Prop:=∃c b,a.tmps[8]?=some (.pointer (some ⟨c,0,none⟩))/\a.tmps[9]?=some (.pointer (some ⟨b,0,none⟩))/\u.heap[c]?=some (qI g)/\u.heap[b]?=some (qI h)/\c≠b/\x.w0.heap.size<=c/\x.w0.heap.size<=b
def Wk.df(h:x.Wk S Z a tm wq w):a.defers=[]:=by
 letI:JunkSet:=x.js
 exact h.rel.df
include o
theorem Ok.capv(h:x.Wk S Z a tm wq w)(k b:Nat)(c:k<7)(e:x.tmp0[k]?=some (pt b)):a.tmps[k]?.getD qhx=.pointer (some b):=by
 rw[h.cap k c,e];rfl
theorem Ok.w0s:x.w0.heap.size=x.W1.heap.size:=q7j
theorem Ok.wp3(h:x.Wk S Z a tm wq w){i:Nat}(I:a.tmps[7]?=some (.int .i64 i))(T:Nat->qk5->Nat) :wR3.wp Ya (yt λa u=>x.Base i a u/\x.Rows x.gn x.gx a u) a (wq.tp T):=by
 have b:=h.df;obtain⟨z,d⟩:=a;have b:d=[]:=b;subst b;have g:z[4]?.getD qhx=.pointer (some x.Y):=o.capv h 4 x.Y (by omega) (by simp[tmp0,tm0]);have p:=qck h.sz h.cap;have j:z.size=60:=h.sz;have c:z[7]?=some (.int .i64 i):=I;have f:=qbD T h.gr;have H:qr 0 x.W1.heap.size (wq.tp T) (.slice x.yb x.ps.length x.yc) x.ps:=(show qr 0 x.W1.heap.size (x.w0.tp T) (.slice x.yb x.ps.length x.yc) x.ps from q7k (Q:=Ya) (jks:=x.jks) o.pars o.dj o.nyb).kept f;have C:=o.ndlt o.nY;have r:(wq.tp T).cell? x.Y=some (.slice x.yb x.ps.length x.yc):=f.cl (xG o.nY (o.dj _ o.nY) o.hY rfl);have q:(wq.tp T).cell? ⟨x.Y,1,none⟩=some (.int .i64 x.lim):=f.cl (xG o.nY (o.dj _ o.nY) o.hY rfl);have y:x.W1.heap.size<=(wq.tp T).heap.size:=by rw[<- o.w0s];exact f.size
 generalize e:(λk:Nat=>z[k]?.getD qhx)=t;have A:z=#[t 0,t 1,t 2,t 3,t 4,t 5,t 6,t 7,t 8,t 9,t 10,t 11,t 12,t 13,t 14,t 15,t 16,t 17,t 18,t 19,t 20,t 21,t 22,t 23,t 24,t 25,t 26,t 27,t 28,t 29,t 30,t 31,t 32,t 33,t 34,t 35,t 36,t 37,t 38,t 39,t 40,t 41,t 42,t 43,t 44,t 45,t 46,t 47,t 48,t 49,t 50,t 51,t 52,t 53,t 54,t 55,t 56,t 57,t 58,t 59]:=by subst e;exact qcv z j
 have g:t 4=.pointer (some x.Y):=by subst e;exact g
 have p:∀k,k<7->x.tmp0[k]?=some (t k):=by subst e;exact p
 have c:t 7=.int .i64 i:=by subst e;show z[7]?.getD qhx=_;rw[c];rfl
 rw[A];refine qfq 0 x.W1.heap.size t (wq.tp T) _ x.ps x.lim x.Y x.yb x.yc g H y o.n5 r q (by omega) λM L N _ _ _ _ n v s l G F=>?_;have B:x.w0.heap.size<=(wq.tp T).heap.size:=by rw[o.w0s];exact y
 refine⟨⟨rfl,rfl,λk D=>?_,q4s h.gr n,by rw[<- c];rfl⟩,M,L,rfl,rfl,v,s,l,by omega,by omega⟩;rw[p k D];obtain rfl | rfl | rfl | rfl | rfl | rfl | rfl:k=0\/k=1\/k=2\/k=3\/k=4\/k=5\/k=6:=by omega
 all_goals first | rfl | (rw[g];rfl)
theorem Ok.wp4(h:x.Wk S Z a tm wq w){i:Nat}(W:i<x.N)(hb:x.Base i a wq)(R:x.Rows x.gn x.gx a wq)(T:Nat->qk5->Nat) :wR4.wp Ya (yt λa u=>x.Base i a u/\x.Rows (ovr (x.c i) x.gn x.wl x.wl.length) (ovr (x.c i) x.gx x.wl x.wl.length) a u) a (wq.tp T):=by
 obtain⟨s,r,n,l,H,G,f,j,g⟩:=R;have e:=h.df;obtain⟨z,d⟩:=a;have e:d=[]:=e;subst e;have L:=o.capv h 4 x.Y (by omega) (by simp[tmp0,tm0]);have q:=o.capv h 2 x.A (by omega) (by simp[tmp0,tm0]);have p:=o.capv h 5 x.V (by omega) (by simp[tmp0,tm0]);have M:=o.capv h 6 x.B (by omega) (by simp[tmp0,tm0]);have C:=qck h.sz h.cap;have v:z.size=60:=h.sz;have I:z[7]?=some (.int .i64 i):=hb.i7;have n:z[8]?=some (.pointer (some s)):=n;have l:z[9]?=some (.pointer (some r)):=l;have X:=qbD T h.gr;have P:x.W1.heap.size<=(x.w0.tp T).heap.size:=qlB o.w0s.symm;generalize b:(λk:Nat=>z[k]?.getD qhx)=t;have O:z=#[t 0,t 1,t 2,t 3,t 4,t 5,t 6,t 7,t 8,t 9,t 10,t 11,t 12,t 13,t 14,t 15,t 16,t 17,t 18,t 19,t 20,t 21,t 22,t 23,t 24,t 25,t 26,t 27,t 28,t 29,t 30,t 31,t 32,t 33,t 34,t 35,t 36,t 37,t 38,t 39,t 40,t 41,t 42,t 43,t 44,t 45,t 46,t 47,t 48,t 49,t 50,t 51,t 52,t 53,t 54,t 55,t 56,t 57,t 58,t 59]:=by subst b;exact qcv z v
 have L:t 4=.pointer (some x.Y):=by subst b;exact L
 have q:t 2=.pointer (some x.A):=by subst b;exact q
 have p:t 5=.pointer (some x.V):=by subst b;exact p
 have M:t 6=.pointer (some x.B):=by subst b;exact M
 have C:∀k,k<7->x.tmp0[k]?=some (t k):=by subst b;exact C
 have I:t 7=.int .i64 i:=by subst b;show z[7]?.getD qhx=_;rw[I];rfl
 have n:t 8=.pointer (some s):=by subst b;show z[8]?.getD qhx=_;rw[n];rfl
 have l:t 9=.pointer (some r):=by subst b;show z[9]?.getD qhx=_;rw[l];rfl
 rw[O];refine qfp 0 x.W1.heap.size t (x.w0.tp T) (wq.tp T) _ x.A x.V _ x.vv x.N i x.c x.wl s r x.gn x.gx q (xG o.nA (o.dj _ o.nA) o.hA rfl) (qbn (Q:=Ya) (jks:=x.jks) o.cas o.dj o.nab) p (xG o.nV (o.dj _ o.nV) o.hV rfl) (q7m (Q:=Ya) (jks:=x.jks) o.ints o.dj o.nvv) I W n l X H G f j g P o.hwl ?_;intro _ _ _ _ _ _ _ _ _ _ _ _ _ _ _ _ _ _ _ _ _ _ _ _ w' y F D;refine⟨⟨rfl,rfl,λk U=>?_,qgH y,rfl⟩,s,r,rfl,rfl,F,D,f,j,g⟩;rw[C k U];obtain rfl | rfl | rfl | rfl | rfl | rfl | rfl:k=0\/k=1\/k=2\/k=3\/k=4\/k=5\/k=6:=by omega
 all_goals first | rfl | (rw[q];rfl) | (rw[p];rfl)
theorem Ok.wp9(h:x.Wk S Z a tm wq w){i:Nat}(hi:i<x.N)(hb:x.Base i a wq)(P:x.Rows (ovr (x.c i) x.gn x.wl x.wl.length) (ovr (x.c i) x.gx x.wl x.wl.length) a wq)(T:Nat->qk5->Nat) :wR9.wp Ya (yt λa u=>x.Base i a u/\a.tmps[58]?=some (.bool (x.bad i))) a (wq.tp T):=by
 obtain⟨G,F,j,f,C,y,R,X,W⟩:=P;have e:=h.df;obtain⟨z,d⟩:=a;have e:d=[]:=e;subst e;have n:=o.capv h 4 x.Y (by omega) (by simp[tmp0,tm0]);have L:=o.capv h 2 x.A (by omega) (by simp[tmp0,tm0]);have I:=o.capv h 5 x.V (by omega) (by simp[tmp0,tm0]);have p:=o.capv h 6 x.B (by omega) (by simp[tmp0,tm0]);have v:=qck h.sz h.cap;have q:z.size=60:=h.sz;have D:z[7]?=some (.int .i64 i):=hb.i7;have j:z[8]?=some (.pointer (some G)):=j;have f:z[9]?=some (.pointer (some F)):=f;have s:=qbD T h.gr;have O:x.W1.heap.size<=(x.w0.tp T).heap.size:=qlB o.w0s.symm;generalize b:(λk:Nat=>z[k]?.getD qhx)=t;have M:z=#[t 0,t 1,t 2,t 3,t 4,t 5,t 6,t 7,t 8,t 9,t 10,t 11,t 12,t 13,t 14,t 15,t 16,t 17,t 18,t 19,t 20,t 21,t 22,t 23,t 24,t 25,t 26,t 27,t 28,t 29,t 30,t 31,t 32,t 33,t 34,t 35,t 36,t 37,t 38,t 39,t 40,t 41,t 42,t 43,t 44,t 45,t 46,t 47,t 48,t 49,t 50,t 51,t 52,t 53,t 54,t 55,t 56,t 57,t 58,t 59]:=by subst b;exact qcv z q
 have n:t 4=.pointer (some x.Y):=by subst b;exact n
 have L:t 2=.pointer (some x.A):=by subst b;exact L
 have I:t 5=.pointer (some x.V):=by subst b;exact I
 have p:t 6=.pointer (some x.B):=by subst b;exact p
 have v:∀k,k<7->x.tmp0[k]?=some (t k):=by subst b;exact v
 have D:t 7=.int .i64 i:=by subst b;show z[7]?.getD qhx=_;rw[D];rfl
 have j:t 8=.pointer (some G):=by subst b;show z[8]?.getD qhx=_;rw[j];rfl
 have f:t 9=.pointer (some F):=by subst b;show z[9]?.getD qhx=_;rw[f];rfl
 rw[M];have H:∀(g:Nat->Int),(∀d,0<=g d/\g d<=1000)->∀d,0<=ovr (x.c i) g x.wl x.wl.length d/\ovr (x.c i) g x.wl x.wl.length d<=1000:=λg s d=>by
  unfold ovr;split
  ·exact o.bc i d
  ·exact s d
 refine qfo 0 x.W1.heap.size t (x.w0.tp T) (wq.tp T) _ x.Y x.B x.yb x.yc x.pv x.ps x.lim x.l G F _ _ n (xG o.nY (o.dj _ o.nY) o.hY rfl) (xG o.nY (o.dj _ o.nY) o.hY rfl) (q7k (Q:=Ya) (jks:=x.jks) o.pars o.dj o.nyb) p (xG o.nB (o.dj _ o.nB) o.hB rfl) (q7m (Q:=Ya) (jks:=x.jks) o.intp o.dj o.npv) j f s C y O o.n5 o.hl o.ll (H _ o.bmn) (H _ o.bmx) ?_;intro _ _ _ _ _ _ _ _ _ _ w' r;refine⟨⟨rfl,rfl,λk U=>?_,q4s h.gr r,by rw[<- D];rfl⟩,rfl⟩;rw[v k U];obtain rfl | rfl | rfl | rfl | rfl | rfl | rfl:k=0\/k=1\/k=2\/k=3\/k=4\/k=5\/k=6:=by omega
 all_goals first | rfl | (rw[n];rfl) | (rw[p];rfl)
theorem Ok.walk{c:Bs->qhw->qhr->Prop}(hSo:∀S g w s,c S g w->c S { g with offers:=s } w){i:Nat}(hi:i<x.N)(hc:x.Cm w)(h:x.Wk S Z a tm wq w)(h7:a.tmps[7]?=some (.int .i64 i))(hend:∀B ρ' l d p q,x.Cm q->x.Wk B ρ' l d p q->l.tmps[58]?=some (.bool (x.bad i))->qm qi2 x.Fz x.cfg.K c B (G ((qjm 139).at ⟨d,dn x.Wg⟩ (.code q3a::.inBlock 1::jz)) [bot]) q) :qm qi2 x.Fz x.cfg.K c S (G ((qjm 139).at ⟨tm,dn x.Wg⟩ (.code wX::.inBlock 1::jz)) [bot]) w:=by
 rw[qgh];refine qm.seq kt ?_;refine o.piece hSo ck3 hc h (λT=>o.wp3 h h7 T) (λl u b=>⟨b.1.df,b.1.sz,b.1.cap,b.1.gr⟩) λV ρ1 R I D P f A k=>?_;refine qm.seq kt ?_;refine o.piece hSo ck4 A k (λT=>o.wp4 k hi f.1 f.2 T) (λl u b=>⟨b.1.df,b.1.sz,b.1.cap,b.1.gr⟩) λU ρ2 Q H C O e z j=>?_;refine qm.seq kt ?_;refine o.piece hSo ck9 z j (λT=>o.wp9 j hi e.1 e.2 T) (λl u b=>⟨b.1.df,b.1.sz,b.1.cap,b.1.gr⟩) λM ρ3 L r n F t y v=>?_;exact hend M ρ3 L r n F y v t.2
end
end Ph4
end Go.Proofs.YtidgnkmjgioapaaGreat
end
section
namespace Go.Proofs.YtidgnkmjgioapaaGreat
open Go Go.RowKit Go.Conc Go.ConcN Go.ConcN.Gen Go.Conc.Lib Go.ConcR.Gen Go.Co Go.Sim
namespace Ph4
section
variable{x:Ph4}
def zT(j:Nat)(ls:Nat->Lam):xM (j+1) ls=xM j ls+(if Y9 (ls j) then 1 else 0):=rfl
def q9t{j i:Nat}{ls:Nat->Lam}{l:Lam}(d:Y9 (ls i)=false)(c:Y9 l=false):xM j (upd ls i l)=xM j ls:=by
 induction j with
 | zero=>rfl
 | succ j b=>
  rw[zT,zT];rw[b];by_cases e:j=i
  ·subst e;simp[upd,d,c]
  ·simp[upd,e]
def q55{j i:Nat}{ls:Nat->Lam}{l:Lam}(b:Y9 (ls i)=false):xM j ls<=xM j (upd ls i l):=by
 induction j with
 | zero=>exact qhv _
 | succ j c=>
  rw[zT,zT];by_cases e:j=i
  ·subst e;simp[b];omega
  ·simp[upd,e];omega
def qea{j i:Nat}{ls:Nat->Lam}(g:i<j)(d:Y9 (ls i)=false):xM j (upd ls i .fn)=xM j ls+1:=by
 induction j with
 | zero=>omega
 | succ j c=>
  rw[zT,zT];by_cases e:j=i
  ·subst e;have:∀n,n<=j->xM n (upd ls j .fn)=xM n ls:=by
    intro n f;induction n with
    | zero=>rfl
    | succ n b=>
     rw[zT,zT];rw[b (by omega)];simp[upd,show n≠j by omega]
   rw[this j (qhv _),d,show Y9 (upd ls j .fn j)=true from by simp[upd,Y9]];simp
  ·rw[c (by omega)];simp[upd,e];omega
def qci{j:Nat}{ls:Nat->Lam}{l:Lam}(h:Y9 l=false):xM (j+1) (upd ls j l)=xM j ls:=by
 have:∀n,n<=j->xM n (upd ls j l)=xM n ls:=by
  intro n c;induction n with
  | zero=>rfl
  | succ n b=>
   rw[zT,zT];rw[b (by omega)];simp[upd,show n≠j by omega]
 rw[zT,this j (qhv _)];simp[upd,h]
def hJ0:∀W j ls,x.J W j ls->x.J W (j+1) (upd ls j .st):=by
 rintro W j ls ⟨q,p,n,l⟩;refine⟨by rw[qci rfl];exact q,p,λg i f c=>?_,λk d b=>?_⟩
 ·rcases n g i f c with h | ⟨k,d,h⟩
  ·exact .inl h
  ·exact .inr ⟨k,by omega,by rw[show upd ls j .st k=ls k from by simp[upd,show k≠j by omega]];exact h⟩
 ·by_cases e:k=j
  ·subst e;simp[upd] at b
  ·rw[show upd ls j .st k=ls k from by simp[upd,e]] at b;exact l k (by omega) b
def hJ:∀W j ls i γ' r,x.J W j ls->i<j->x.Tr W (ls i) γ' r->x.J γ' j (upd ls i r):=by
 rintro W j ls i γ' r ⟨G,F,D,C⟩ B H;have v:∀k,k≠i->upd ls i r k=ls k:=λk g=>by simp[upd,g]
 have y:upd ls i r i=r:=by simp[upd]
 rcases H with⟨d,rfl,rfl⟩ | ⟨t,d,rfl,rfl⟩ | ⟨t,d,A,z,rfl,rfl⟩
 ·have c:Y9 (ls i)=false:=by rcases d with h | ⟨t,h,_⟩<;>rw[h]<;>rfl
  refine⟨?_,F,λs u p q=>?_,λk g b=>?_⟩
  ·by_cases n:W.1<x.N
   ·simp only[n,if_true];omega
   ·simp only[n,if_false];rw[qea B c];omega
  ·by_cases e:u=W.1
   ·subst e;exact .inr ⟨i,B,.inl (by rw[y,if_pos p])⟩
   ·rcases D s u p (by have:u<W.1+1:=q;omega) with h | ⟨k,g,h⟩
    ·exact .inl h
    ·by_cases f:k=i
     ·subst f;rcases d with d | ⟨t,d,A⟩
      ·rw[d] at h;rcases h with h | h<;>cases h
      ·rw[d] at h;rcases h with h | h
       ·cases h
       ·cases h;exact .inl A
     ·exact .inr ⟨k,g,by rw[v k f];exact h⟩
  ·by_cases f:k=i
   ·subst f;rw[y] at b;by_cases n:W.1<x.N
    ·rw[if_pos n] at b;cases b
    ·exact .inr (by show x.N<=W.1+1;omega)
   ·rw[v k f] at b;exact(C k g b).imp id λh=>by show x.N<=W.1+1;omega
 ·have c:Y9 (ls i)=false:=by rw[d];rfl
  refine⟨qhB G (by have:=q55 (j:=j) (l:=if γ'.2 then Lam.fn else .wk t) c;omega),F,λs u p q=>?_,λk g b=>?_⟩
  ·rcases D s u p q with h | ⟨k,g,h⟩
   ·exact .inl h
   ·refine .inr ⟨k,g,?_⟩;by_cases f:k=i
    ·subst f;rw[d] at h;rcases h with h | h
     ·cases h;rw[y,s];exact .inr rfl
     ·cases h
    ·rw[v k f];exact h
  ·by_cases f:k=i
   ·subst f;rw[y] at b;cases hg:γ'.2 with
    | true=>exact .inl rfl
    | false=>rw[hg] at b;cases b
   ·rw[v k f] at b;exact C k g b
 ·have c:Y9 (ls i)=false:=by rw[d];rfl
  exact⟨by rw[q9t c rfl];exact G,λ_=>⟨t,z,A⟩,λs=>(by cases s),λk g b=>.inl rfl⟩
def hm:∀W l γ' c,x.Tr W l γ' c->x.m γ'+nu c<x.m W+nu l:=by
 rintro W l γ' c e;unfold m;rcases e with⟨f,rfl,rfl⟩ | ⟨d,rfl,rfl,rfl⟩ | ⟨d,rfl,j,g,rfl,rfl⟩
 ·have i:1<=nu l:=by rcases f with h | ⟨d,h,_⟩<;>rw[h]<;>simp[nu]
  show 3*(x.N - (W.1+1))+nu (if W.1<x.N then .ld W.1 else .fn)<3*(x.N - W.1)+nu l;by_cases b:W.1<x.N
  ·rw[if_pos b];show 3*(x.N - (W.1+1))+3<_;omega
  ·rw[if_neg b];show 3*(x.N - (W.1+1))+0<_;omega
 ·cases γ'.2<;>simp[nu]
 ·simp[nu]
def J.final{W:Nat × Bool}{ls:Nat->Lam}(h:x.J W (min 4 x.N) ls)(f:∀i,i<min 4 x.N->fin (ls i)):W.2=true↔∃i,i<x.N/\x.bad i=true:=by
 obtain⟨p,n,l,j⟩:=h;refine⟨n,λ⟨i,e,g⟩=>?_⟩;have c:∀k,k<min 4 x.N->ls k=.fn:=λk d=>by
  have:=f k d;cases hl:ls k<;>rw[hl] at this<;>first | rfl | exact this.elim
 rcases j 0 (by omega) (c 0 (by omega)) with h | h
 ·exact h
 ·cases hg:W.2 with
  | true=>rfl
  | false=>
   rcases l hg i e (by omega) with b | ⟨k,d,b⟩
   ·rw[g] at b;cases b
   ·rw[c k d] at b;rcases b with b | b<;>cases b
def hSo{l:Lam}:∀S g w c,x.cfg.Stop l S g w->x.cfg.Stop l S { g with offers:=c } w:=by
 rintro S g w c ⟨k,j⟩;refine⟨k,?_⟩;rcases j with⟨d,n,e,r⟩ | ⟨d,f⟩
 ·exact .inl ⟨d,n,e,r⟩
 ·exact .inr ⟨d,λW i h=>f W i h⟩
variable(o:x.Ok){S:Bs}{w:qhr}{Z:Ren}{a:Act}{tm:Array qhu}{wq:qhr}
include o in
theorem Ok.toA{l:Lam}(d:l=.st\/∃i,l=.wk i/\x.bad i=false)(c:x.Cm w)(b:x.Wk S Z a tm wq w) :qm qi2 x.Fz x.cfg.K (x.cfg.Stop l) S (G ((qjm 139).at ⟨tm,dn x.Wg⟩ (.code wLB::jz)) [bot]) w :=
 qdk kt (o.t1 b) λ_ h₁=>o.sync1 d (c.rely h₁) (b.rely c h₁)
def toE(c:x.Cm w)(tm:Array qhu)(b:List qlG):qm qi2 x.Fz x.cfg.K (x.cfg.Stop .fn) S (G { (qjm 139).at ⟨tm,dn x.Wg⟩ b with mode:=.returning } [bot]) w :=
 qdh kt c.liv.1 (λ_ _ k=>k.1) (λ_ _ h=>⟨h.1,.inl ⟨trivial,h.2⟩⟩) tm b
include o in
theorem Ok.hW:∀l S g w,x.WA l S g w->qm qi2 x.Fz x.cfg.K (x.cfg.Stop l) S g w:=by
 letI:JunkSet:=x.js
 rintro l S g w ⟨d,h⟩;have q:x.A<w.heap.size:=qi0 (o.ndlt o.nA) d.size;cases l with
 | st=>
  rcases h with⟨rfl,v⟩ | ⟨Z,a,tm,wq,b,rfl⟩
  ·exact q64 kt (o.toA (.inl rfl) d (o.born d v))
  ·exact qdi kt (o.toA (.inl rfl) d (b.set 59 (by omega) (kC _)))
 | ld i=>
  obtain⟨p,Z,a,tm,wq,b,rfl⟩:=h;refine qdj (av:=qhx) kt b.tsz (o.t2 b) (o.t3 b) (λw₁ h₁=>o.cellA (d.rely h₁)) (o.fz o.nA) q p (by have:=o.hN;omega) (λw₁ h₁=>?_);have r:=b.rely d h₁;have f:=(((((((r.set 12 (by omega) (.int .i64 (i+1))).set 13 (by omega) (.int .i64 i)).set 7 (by omega) (.int .i64 i)).set 14 (by omega) (.int .i64 i)).set 15 (by omega) (o.vrA.mono b.le)).set 16 (by omega) (.int .i64 x.N)).set 17 (by omega) (.bool false)).set 18 (by omega) (.bool false);exact o.sync2 p (d.rely h₁) f (by simp[qiC,b.sz]) (by simp[qiC,b.sz])
 | wk i=>
  obtain⟨p,Z,a,tm,wq,b,y,k,rfl⟩:=h;refine qb3 kt b.tsz (b.bool k) ?_;have f:=(b.set 19 (by omega) (.bool false)).set 20 (by omega) (.bool false);refine o.walk hSo p d f (by simp[qiC,y]) λF ρ' D u s C j c e=>?_;cases hb:x.bad i with
  | false=>
   rw[hb] at e;exact qdg kt c.tsz (c.bool e) (o.toA (.inr ⟨i,rfl,hb⟩) j c)
  | true=>
   rw[hb] at e;exact qdf kt (λw n=>⟨id,id⟩) c.tsz (o.t3 c) (c.bool e) λw₁ h₁=>o.sync3 p hb (j.rely h₁) (c.rely j h₁)
 | fn=>
  obtain⟨Z,a,tm,wq,b,⟨i,B,z,rfl⟩ | ⟨k,rfl⟩⟩:=h
  ·exact qb4 kt b.tsz (o.t2 b) (λw₁ h₁=>o.cellA (d.rely h₁)) (o.fz o.nA) q B z (toE d)
  ·exact qb2 kt b.tsz (b.bool k) (toE d)
include o in
theorem Ok.cfg(hAr:∀g w,x.AnchW g w->g.status=.running)(hAn:∀g w,x.AnchW g w->∃m,x.cfg.GM x.cfg.AtW1 m g w)(hFin:∀W ls g w,x.Fin g w->x.J W (min 4 x.N) ls->(∀i,i<min 4 x.N->fin (ls i))->x.DataAt W w->x.cfg.Ph w->E qi2 x.Post (flat x.clA) g w):x.cfg.Ok where
 hn:=by show min 4 x.N<2147483648;omega
 hlo:=o.hlo
 dat:=λW w e h d=>⟨(h _ (.inl rfl)).t d.1,(h _ (.inr rfl)).t d.2⟩
 fzc:=λb c=>⟨c.2,c.1⟩
 syc:=λb c=>by
  have:b∈x.jks:=by rcases c with rfl | rfl<;>simp[jks]
  exact⟨o.sync b this,o.jlt b this⟩
 cla0:=o.cla0
 wgc:=⟨o.sync _ (by simp[Ph4.cfg,jks]),o.jlt _ (by simp[Ph4.cfg,jks]),λh=>h.elim o.ne2 o.ne3⟩
 hW:=o.hW
 hJ0:=hJ0
 hJ:=hJ
 hm:=hm
 hAr:=hAr
 hAn:=hAn
 hFin:=hFin
end
end Ph4
end Go.Proofs.YtidgnkmjgioapaaGreat
end
namespace Go.Proofs.YtidgnkmjgioapaaGreat
section
open Go Go.RowKit Go.Conc Go.ConcN Go.ConcN.Gen Go.Conc.Lib Go.ConcR.Gen Go.Co Go.Sim
def Qx{i:Nat->Cl}{A o a:Nat}{wr:Bool}(h:i A=.mine 0)(j:A<a):EvG i a 0 ⟨.cell ⟨A,o,none⟩,wr,Mode.plain == Mode.atomic⟩/\jA ⟨.cell ⟨A,o,none⟩,wr,Mode.plain == Mode.atomic⟩:=by
 refine⟨λx f b g=>?_,by simp[jA],by simp,by simp⟩;have d:x=⟨.cell ⟨A,o,none⟩,wr,.plain⟩:=by
  have e:(Mode.plain == Mode.atomic)=false:=by decide
  rw[e] at f;cases wr<;>(simp[qjq,qkg] at f;exact f.symm)
 subst d;simp only[Go.Co.blk,qiD] at g;subst g;exact⟨j,.inl ⟨h,rfl⟩⟩
def QU{w:qhr}{b o d:Nat}{a:Array qhu}{e:qi4}{f:Nat × Nat}{v:qhu}(h:w.heap[b]?=some (.cells a e f))(g:a[o]?=some v):(w.at d).cell? ⟨b,o,none⟩=some v:=q8 (w:=w.at d) h g
structure Nw(w w1:qhr)(B:Nat)(c:Array qhu)(e:qi4):Prop where
 eq:w1=w.alloc (.cells c e)
 at_:B=w.heap.size
section
variable{w w1:qhr}{B:Nat}{c:Array qhu}{e:qi4}
def nw(w:qhr)(c:Array qhu)(e:qi4):∃B w1,Nw w w1 B c e:=⟨_,_,⟨rfl,rfl⟩⟩
def Nw.size(h:Nw w w1 B c e):w1.heap.size=w.heap.size+1:=by rw[h.eq];simp
def Nw.le(h:Nw w w1 B c e):w.heap.size<=w1.heap.size:=by rw[h.size];omega
def Nw.lt(h:Nw w w1 B c e):B<w1.heap.size:=by rw[h.size,h.at_];omega
def Nw.new(h:Nw w w1 B c e):w1.heap[B]?=some (.cells c e (0,0)):=by
 rw[h.eq,h.at_];unfold World.alloc;exact Array.getElem?_push_size
def Nw.old(h:Nw w w1 B c e){b:Nat}(a:b<w.heap.size):w1.heap[b]?=w.heap[b]?:=by
 rw[h.eq];simp only[World.alloc,qm4];rw[if_neg (by omega)]
def Nw.os(h:Nw w w1 B c e):w1.os=w.os:=by rw[h.eq];rfl
def Nw.output(h:Nw w w1 B c e):w1.output=w.output:=by rw[h.eq];rfl
end
def min4(N:Nat):(if(N:Int)<4 then(N:Int) else 4)=((min 4 N:Nat):Int):=by split<;>omega
def qfF(N:Nat)(w:qhr)(P:qhF):(qp9 #[3,3] 3 #[.int .i64 4,N]).events P w #[]=#[]:=by
 simp[go_sem,qp9,Builtin.min2]
def Kx{P:qhF}{w:qhr}{a:Array qjk}{d:qiG}{b:Option qiG}{l c:Nat}:(Go.store d (.slice b l c)).events P w a=storedEv P w a d (.slice b l c) .plain:=events_store P w a d _ .plain rfl
structure At5(Q:qhF)[JunkSet](M:Nat)(w:qhr)(cl:Nat->Cl)(Z:Ren)(yb pb vb ab:Option qiG)(n yc pn pc vn vc N ac:Nat)(lim:Int)(Y B V A Nx Fd Wg:Nat)(O:Ren)(wq:qhr)(w5:qhr)(cl5:Nat->Cl):Prop where
 wr:WR Q M O wq w5
 ln:M<=O.length
 le:Le Z O
 fr:∀i j,BR O i j->BR Z i j\/w.heap.size<=j
 own:kX cl5 O
 kp:kl M 0 w O w5
 c0:∀b,w5.heap.size<=b->cl5 b=.mine 0
 cold:∀b,b<w.heap.size->cl5 b=cl b
 hY:w5.heap[Y]?=some (.cells #[.slice yb n yc,lim] 91 (0,0))
 hB:w5.heap[B]?=some (.cells #[.slice pb pn pc] 29 (0,0))
 hV:w5.heap[V]?=some (.cells #[.slice vb vn vc] 29 (0,0))
 hA:w5.heap[A]?=some (.cells #[.slice ab N ac] 152 (0,0))
 hNx:w5.heap[Nx]?=some (.cells #[.int .i64 0] 158 (0,0))
 hFd:w5.heap[Fd]?=some (.cells #[.int .u32 0] 161 (0,0))
 hWg:w5.heap[Wg]?=some (.cells #[.int .u64 0,.int .u32 0] 166 (0,0))
 cY:cl5 Y=.mine 0
 cB:cl5 B=.mine 0
 cV:cl5 V=.mine 0
 cA:cl5 A=.mine 0
 cNx:cl5 Nx=.sync
 cFd:cl5 Fd=.sync
 cWg:cl5 Wg=.sync
 l1:w.heap.size<=Nx
 l2:Nx<Fd
 l3:Fd<Wg
noncomputable def x85:qkh:=sqB (sqB (sqB (sqB (sqB (Tryz.f85.body.getD .skip)))))
noncomputable def Qp:qkh:=sqB (sqA x85)
noncomputable def xZ:qkh:=sqB x85
def qfa(i t o q:Option qiG)(n h r s k l N p:Nat)(a:Int)(Y B V A v x u:Nat)(j:Int)(g f d b:qhu):Array qhu :=
 #[.agg #[.slice i n h,a],.slice t r s,.slice o k l,.pointer (some Y),.pointer (some B),.pointer (some V),.bool false,.pointer (some A),.pointer (some v),.pointer (some x),.pointer (some u),.agg #[.slice i n h,a],.slice o k l,.slice q N p,.slice q N p,N,.int .i64 (min 4 N:Nat),j,g,f,d,b,qhx,qhx]
def qgg[JunkSet]{M:Nat}(D:Two Ya qi2)(s3:JunkSet.okf 137){Rc:qhu->qhr->Prop}{yq vq:qhu}{wq:qhr}{Z:Ren}{e6:qhu->qhr->Prop}{p:Nat->Cl}{cs:List qhG}{w:qhr}{yb pb vb:Option qiG}{n yc pn pc vn vc:Nat}{C:Int}(S:∀b,w.heap.size<=b->p b=.mine 0)(n4:M<=Z.length)(hw:WR Ya M Z wq w)(hG:Gl qi2 Z)(m9:kX p Z)(hy:VR Z yq (.agg #[.slice yb n yc,C]))(hv:VR Z vq (.slice vb vn vc))(p3:∀i,¬ JunkSet.jk i)(p4:∀T,qis Ya 137 #[yq,vq] (wq.tp T) λe u=>∃v,e=.returned v/\Rc v u)(s2:∀v u,Rc v u->∃b N c,v=.slice b N c)(X:∀O b6 v Y B V A Nx Fd Wg W N U w5 q1,Rc v b6->VR O v (.slice W N U)->At5 Ya M w p Z yb pb vb W n yc pn pc vn vc N U C Y B V A Nx Fd Wg O b6 w5 q1 ->EE qi2 e6 q1 (G ((qij 85).at ⟨qfa yb pb vb W n yc pn pc vn vc N U C Y B V A Nx Fd Wg 0 qhx undef undef undef,[]⟩ [.code Qp,.code xZ]) cs) w5) :EE qi2 e6 p (G ((qij 85).at ⟨#[.agg #[.slice yb n yc,C],.slice pb pn pc,.slice vb vn vc]++qiE 21 qhx,[]⟩ [.code (Tryz.f85.body.getD .skip)]) cs) w:=by
 simp only[Qp,xZ,x85,qfa] at X;simp only[qly,qhC,sqA,sqB,inn] at X ⊢;refine EE.seq ?_;refine EE.region ?_;simp only[qim,qhE,qi1,qib,qi6,qil,qj2];have⟨Y,w1,a⟩:=nw w #[.slice yb n yc,C] 91;refine EE.op (.pointer (some ⟨Y,0,none⟩)) w1 p rfl rfl (by k_ne) (λd=>by rw[a.eq,a.at_];go_simp;exact⟨rfl,rfl⟩) (λd=>by simp[go_sem]) a.le (λ_ _=>rfl) (λb o=>S b (by have:=a.size;omega)) ?_;walk_nrm;have⟨B,w2,f⟩:=nw w1 #[.slice pb pn pc] 29;refine EE.op (.pointer (some ⟨B,0,none⟩)) w2 p rfl rfl (by k_ne) (λd=>by rw[f.eq,f.at_];go_simp;exact⟨rfl,rfl⟩) (λd=>by simp[go_sem]) f.le (λ_ _=>rfl) (λb o=>S b (by have:=a.size;have:=f.size;omega)) ?_;walk_nrm;have⟨V,q,k⟩:=nw w2 #[.slice vb vn vc] 29;have d5:∀b,q.heap.size<=b->p b=.mine 0:=λb o=>S b (by have:=a.size;have:=f.size;have:=k.size;omega);refine EE.op (.pointer (some ⟨V,0,none⟩)) q p rfl rfl (by k_ne) (λd=>by rw[k.eq,k.at_];go_simp;exact⟨rfl,rfl⟩) (λd=>by simp[go_sem]) k.le (λ_ _=>rfl) d5 ?_;walk_nrm;refine EE.value (.bool false) rfl rfl (by k_ne) (λ_=>by go_simp) (λ_=>by simp[go_sem]) ?_;walk_nrm;refine EE.region_end ?_;refine EE.seq ?_;refine EE.region ?_;simp only[qim,qhE,qi1,qib,qi6,qil,qj2];have hY:q.heap[Y]?=some (.cells #[.slice yb n yc,C] 91 (0,0)):=by
  rw[k.old (qi0 a.lt f.le),f.old a.lt];exact a.new
 have hB:q.heap[B]?=some (.cells #[.slice pb pn pc] 29 (0,0)):=by
  rw[k.old f.lt];exact f.new
 have hV:=k.new;have cY:p Y=.mine 0:=S _ (by rw[a.at_];omega);have cB:p B=.mine 0:=S _ (by rw[f.at_];exact a.le);have cV:p V=.mine 0:=S _ (by rw[k.at_];exact qhB a.le f.le);have sY:Y<q.heap.size:=qi0 a.lt (qhB f.le k.le);have sB:B<q.heap.size:=qi0 f.lt k.le;have sV:V<q.heap.size:=k.lt;have s9:∀d,(q.at d).cell? ⟨Y,0,none⟩=some (.slice yb n yc):=λd=>QU hY rfl;have s8:∀d,(q.at d).cell? ⟨Y,1,none⟩=some (.int .i64 C):=λd=>QU hY rfl;have t3:∀d,(q.at d).cell? ⟨V,0,none⟩=some (.slice vb vn vc):=λd=>QU hV rfl;refine EE.op (.agg #[.slice yb n yc,C]) q p rfl rfl (by k_ne) (λd=>by go_simp) (λd e Q=>by
  simp[go_sem,s9,s8] at Q;rcases Q with rfl | rfl
  ·exact Qx cY sY
  ·exact Qx cY sY) (qhv _) (λ_ _=>rfl) d5 ?_
 walk_nrm;refine EE.op (.slice vb vn vc) q p rfl rfl (by k_ne) (λd=>by go_simp) (λd e Q=>by
  simp[go_sem,t3] at Q;rw[Q];exact Qx cV sV) (qhv _) (λ_ _=>rfl) d5 ?_
 walk_nrm;refine EE.enter rfl rfl (by k_ne) rfl Tryz.func137 (by kernel_rfl) rfl ?_;walk_nrm;have s1:WR Ya M Z wq q:=hw.rely (qhB a.le (qhB f.le k.le)) (by rw[k.os,f.os,a.os]) (λi j H _=>by
  have hj:=hw.lt i j H;rw[k.old (qi0 hj (qhB a.le f.le)),f.old (qi0 hj a.le),a.old hj]) (λi j _ h=>absurd h (p3 i))
 have nY:∀i,¬ BR Z i Y:=λi h=>by have:=hw.lt _ _ h;rw[a.at_] at this;omega
 have nB:∀i,¬ BR Z i B:=λi h=>by have:=hw.lt _ _ h;have:=a.le;rw[f.at_] at *;omega
 have nV:∀i,¬ BR Z i V:=λi h=>by have:=hw.lt _ _ h;have:=a.le;have:=f.le;rw[k.at_] at *;omega
 refine EE.call D (R:=Rc) s3 (zd 137 (by decide)) (aq:=#[yq,vq]) (Z:=Z) (wq:=wq) ?_ n4 s1 hG p4 rfl rfl m9 d5 ?_
 ·refine⟨rfl,λi x y hx m6=>?_⟩;have hi:i<2:=by
   have:=(qhs.1 hx).1;simpa using this
  obtain rfl | rfl:i=0\/i=1:=by omega
  ·cases hx;cases m6;exact hy
  ·cases hx;cases m6;exact hv
 intro O b6 v v' w4 p6 m8 g9 n6 c3 h8 p5 l;obtain⟨r4,N,U,rfl⟩:=s2 _ _ p6;obtain⟨W,rfl⟩:∃W,v'=.slice W N U:=by cases m8<;>exact⟨_,rfl⟩
 have fY:∀i,¬ BR O i Y:=λi h=>(c3 i Y h).elim (nY i) (by omega);have fB:∀i,¬ BR O i B:=λi h=>(c3 i B h).elim (nB i) (by omega);have fV:∀i,¬ BR O i V:=λi h=>(c3 i V h).elim (nV i) (by omega);have s7:=(l.old Y sY λi h=>absurd h (fY i)).t hY;have t4:=(l.old B sB λi h=>absurd h (fB i)).t hB;have t2:=(l.old V sV λi h=>absurd h (fV i)).t hV;rw[qkj];walk_nrm;have⟨A,w5,P⟩:=nw w4 #[.slice none 0 0] 152;have k6:∀b,w5.heap.size<=b->p b=.mine 0:=λb o=>p5 b (qhB P.le o);refine EE.op (.pointer (some ⟨A,0,none⟩)) w5 p rfl rfl (by k_ne) (λd=>by rw[P.eq,P.at_];go_simp;exact⟨rfl,rfl⟩) (λd=>by simp[go_sem]) P.le (λ_ _=>rfl) k6 ?_;walk_nrm;have cA:p A=.mine 0:=p5 _ (by rw[P.at_];omega);have d6:=P.new;have q0:∀d,(w5.at d).cell? ⟨A,0,none⟩=some (.slice none 0 0):=λd=>QU d6 rfl;have p7:∀d,(w5.at d).frozen? ⟨A,0,none⟩=false:=λd=>Qu (w:=w5.at d) d6;obtain⟨L,F⟩:∃L,L=w5.setCell ⟨A,0,none⟩ (.slice W N U):=⟨_,rfl⟩;have s6:L.heap.size=w5.heap.size:=by rw[F];simp
 refine EE.store L rfl rfl (by k_ne) (λd=>by rw[F];clear F;go_simp;rfl) (λd e Q=>by
  simp[go_sem] at Q;rw[Kx] at Q;simp[storedEv,q0,p7] at Q;rw[Q];exact Qx cA (by rw[s6];exact P.lt)) s6 k6 ?_
 walk_nrm;have t5:L.heap[A]?=some (.cells #[.slice W N U] 152 (0,0)):=by
  rw[F,qpn _ _ _ _ _ _ d6];simp
 have m5:∀b,b<w4.heap.size->L.heap[b]?=w4.heap[b]?:=λb o=>by
  rw[F,qlq _ _ _ _ (by rw[P.at_];show b≠w4.heap.size;omega)];exact P.old o
 have m4:L.os=w4.os:=by rw[F];exact P.os
 have r7:L.output=w4.output:=by rw[F];exact P.output
 have s5:∀b,L.heap.size<=b->p b=.mine 0:=λb o=>k6 b (by omega);have s4:w4.heap.size<=L.heap.size:=by rw[s6];exact P.le
 have r6:A<L.heap.size:=by rw[s6];exact P.lt
 clear F q0 p7 d6 s6;refine EE.region_end ?_;refine EE.seq ?_;refine EE.region ?_;simp only[qim,qhE,qi1,qib,qi6,qil,qj2];have⟨Nx,w7,z⟩:=nw L #[.int .i64 0] 158;obtain⟨c7,k5⟩:∃c7:Nat->Cl,c7=λb=>if b=Nx then .sync else p b:=⟨_,rfl⟩;have a7:∀b,b<L.heap.size->c7 b=p b:=λb o=>by rw[k5];simp only;rw[if_neg (by rw[z.at_];omega)]
 have b7:∀b,w7.heap.size<=b->c7 b=.mine 0:=λb o=>by rw[k5];simp only;rw[if_neg (by have:=z.lt;omega)];exact s5 b (qhB z.le o)
 refine EE.op (.pointer (some ⟨Nx,0,none⟩)) w7 c7 rfl rfl (by k_ne) (λd=>by rw[z.eq,z.at_];go_simp;exact⟨rfl,rfl⟩) (λd=>by simp[go_sem]) z.le a7 b7 ?_;walk_nrm;refine EE.region_end ?_;refine EE.seq ?_;refine EE.region ?_;simp only[qim,qhE,qi1,qib,qi6,qil,qj2];have⟨Fd,w8,r⟩:=nw w7 #[.int .u32 0] 161;obtain⟨c8,k0⟩:∃c8:Nat->Cl,c8=λb=>if b=Fd then .sync else c7 b:=⟨_,rfl⟩;have a8:∀b,b<w7.heap.size->c8 b=c7 b:=λb o=>by rw[k0];simp only;rw[if_neg (by rw[r.at_];omega)]
 have b8:∀b,w8.heap.size<=b->c8 b=.mine 0:=λb o=>by rw[k0];simp only;rw[if_neg (by have:=r.lt;omega)];exact b7 b (qhB r.le o)
 refine EE.op (.pointer (some ⟨Fd,0,none⟩)) w8 c8 rfl rfl (by k_ne) (λd=>by rw[r.eq,r.at_];go_simp;exact⟨rfl,rfl⟩) (λd=>by simp[go_sem]) r.le a8 b8 ?_;walk_nrm;refine EE.region_end ?_;refine EE.seq ?_;refine EE.region ?_;simp only[qim,qhE,qi1,qib,qi6,qil,qj2];have⟨Wg,w9,I⟩:=nw w8 #[.int .u64 0,.int .u32 0] 166;obtain⟨c9,h9⟩:∃c9:Nat->Cl,c9=λb=>if b=Wg then .sync else c8 b:=⟨_,rfl⟩;have a9:∀b,b<w8.heap.size->c9 b=c8 b:=λb o=>by rw[h9];simp only;rw[if_neg (by rw[I.at_];omega)]
 have b9:∀b,w9.heap.size<=b->c9 b=.mine 0:=λb o=>by rw[h9];simp only;rw[if_neg (by have:=I.lt;omega)];exact b8 b (qhB I.le o)
 refine EE.op (.pointer (some ⟨Wg,0,none⟩)) w9 c9 rfl rfl (by k_ne) (λd=>by rw[I.eq,I.at_];go_simp;exact⟨rfl,rfl⟩) (λd=>by simp[go_sem]) I.le a9 b9 ?_;walk_nrm;have e7:=z.le;have e8:=r.le;have e9:=I.le;have s:∀b,b<w4.heap.size->w9.heap[b]?=w4.heap[b]?:=λb o=>by
  rw[I.old (by omega),r.old (by omega),z.old (by omega)];exact m5 b o
 have g:∀b,b<L.heap.size->c9 b=p b:=λb o=>by rw[a9 b (by omega),a8 b (by omega),a7 b o]
 have p9:w9.heap[A]?=some (.cells #[.slice W N U] 152 (0,0)):=by
  rw[I.old (by omega),r.old (by omega),z.old (by omega)];exact t5
 refine EE.region_end ?_;refine EE.seq ?_;refine EE.seq ?_;refine EE.region ?_;simp only[qim,qhE,qi1,qib,qi6,qil,qj2];have p8:∀d,(w9.at d).cell? ⟨A,0,none⟩=some (.slice W N U):=λd=>QU p9 rfl;have q2:c9 A=.mine 0:=(g A r6).t cA;have r8:A<w9.heap.size:=by omega
 refine EE.op (.slice W N U) w9 c9 rfl rfl (by k_ne) (λd=>by go_simp) (λd e Q=>by
  simp[go_sem,p8] at Q;rw[Q];exact Qx q2 r8) (qhv _) (λ_ _=>rfl) b9 ?_
 walk_nrm;refine EE.value (.int .i64 N) rfl rfl (by k_ne) (λ_=>by go_simp) (λ_=>by simp[go_sem]) ?_;walk_nrm;refine EE.value (.int .i64 (min 4 N:Nat)) rfl rfl (by k_ne) (λ_=>by go_simp;rw[min4]) (λ_=>by simp[go_sem];exact qfF _ _ _) ?_;walk_nrm;refine EE.value (.int .i64 0) rfl rfl (by k_ne) (λ_=>by go_simp) (λ_=>by simp[go_sem]) ?_;walk_nrm;refine EE.region_end ?_;have f4:∀{b:Nat},b<q.heap.size->b<w4.heap.size:=λh=>qi0 h l.size;refine X O b6 (.slice r4 N U) Y B V A Nx Fd Wg W N U w9 c9 p6 m8 ⟨?_,qhB n4 n6.len,n6,λi j H=>(c3 i j H).imp id λh=>qhB (qhB a.le (qhB f.le k.le)) h,?_,⟨?_,?_,?_,?_,λ_ _ _ _=>qiu _,qiu _⟩,b9,?_,?_,?_,?_,p9,?_,?_,I.new,?_,?_,?_,q2,?_,?_,?_,?_,?_,?_⟩
 ·-- wr
  refine g9.rely (by omega) ?_ (λi j H _=>s j (g9.lt i j H)) (λi j _ h=>absurd h (p3 i));rw[I.os,r.os,z.os,m4]
 ·-- own
  intro i j H;have hj:=g9.lt i j H;rw[g j (by omega)];exact h8 i j H
 ·-- keep
  intro j hj hn;have h1:w.heap.size<=q.heap.size:=qhB a.le (qhB f.le k.le);have h2:=l.size;rw[s j (by omega),l.old j (by omega) hn,k.old (qi0 hj (qhB a.le f.le)),f.old (qi0 hj a.le),a.old hj]
 ·rw[I.os,r.os,z.os,m4,l.os,k.os,f.os,a.os]
 ·rw[I.output,r.output,z.output,r7,l.output,k.output,f.output,a.output]
 ·have h1:w.heap.size<=q.heap.size:=qhB a.le (qhB f.le k.le);have h2:=l.size;omega
 ·intro b o;have h1:w.heap.size<=q.heap.size:=qhB a.le (qhB f.le k.le);have h2:=l.size;exact g b (by omega)
 ·exact(s Y (f4 sY)).t s7
 ·exact(s B (f4 sB)).t t4
 ·exact(s V (f4 sV)).t t2
 ·have:=z.lt;rw[I.old (by omega),r.old (by omega)];exact z.new
 ·have:=r.lt;rw[I.old (by omega)];exact r.new
 ·have:=f4 sY;rw[g Y (by omega)];exact cY
 ·have:=f4 sB;rw[g B (by omega)];exact cB
 ·have:=f4 sV;rw[g V (by omega)];exact cV
 ·have:=z.lt;rw[a9 Nx (by omega),a8 Nx (by omega),k5];simp
 ·have:=r.lt;rw[a9 Fd (by omega),k0];simp
 ·rw[h9];simp
 ·have h1:w.heap.size<=q.heap.size:=qhB a.le (qhB f.le k.le);have h2:=l.size;rw[z.at_];omega
 ·have:=z.lt;rw[r.at_];omega
 ·have:=r.lt;rw[I.at_];omega
end
section
open Go Go.RowKit Go.Conc Go.ConcN Go.ConcN.Gen Go.Conc.Lib Go.ConcR.Gen Go.Co Go.Sim
def qfm{U X:Type}{C:Cfg U X}{b:qhw->qhr->Prop}{a m:Nat}{g:qhw}{w:qhr}(h:qnh C.P true (LR C.ty C.Wg) qoj (λg w=>C.GM b m g w) a g w):C.GM b (a+m) g w :=
 Cfg.GM.trans (Cfg.GM.of h λ_ _ h=>h)
noncomputable def yK:qkh:=inn (inn Qp)
noncomputable def Ki:List qlG:=[.inLoop yK,.inBlock 0,.code xZ]
def q0h(x:Ph4):qhu:=.func (.func 139) #[] (jD x.Wg x.Nx x.A x.Fd x.Y x.V x.B)
def tmx(x:Ph4)(j:Nat)(a b c d e:qhu):Array qhu :=
 #[.agg #[.slice x.yb x.ps.length x.yc,x.lim],x.pv,x.vv,.pointer (some x.Y),.pointer (some x.B),.pointer (some x.V),.bool false,.pointer (some x.A),.pointer (some x.Nx),.pointer (some x.Fd),.pointer (some x.Wg),.agg #[.slice x.yb x.ps.length x.yc,x.lim],x.vv,.slice x.ab x.N x.ac,.slice x.ab x.N x.ac,x.N,.int .i64 (min 4 x.N:Nat),j,a,b,c,d,e,qhx]
def z18(j:Nat):qhu:=if j=0 then qhx else .bool true
def z19(j:Nat):qhu:=if j=0 then qhx else .tuple #[]
def z20(x:Ph4)(j:Nat):qhu:=if j=0 then qhx else q0h x
def z21(j:Nat):qhu:=if j=0 then qhx else .int .i64 j
def qge(j:Nat):z18 (j+1)=.bool true:=by simp[z18]
def qgd(j:Nat):z19 (j+1)=.tuple #[]:=by simp[z19]
def qgc(x:Ph4)(j:Nat):z20 x (j+1)=q0h x:=by simp[z20]
def qgb(j:Nat):z21 (j+1)=.int .i64 (j+1:Nat):=by simp[z21]
noncomputable def q4p(x:Ph4)(cs:List qhG)(j:Nat):qhw:=G ((qij 85).at ⟨tmx x j (z18 j) (z19 j) (z20 x j) (z21 j) qhx,[]⟩ (.code yK::Ki)) cs
section
variable{x:Ph4}{cs:List qhG}
def q0F{b:qhw->qhr->Prop}{m:Nat}{j:Nat}(d:j<4)(h:∀w,qkB 166 x.Wg w->x.cfg.GM b m (q4p x cs (j+1)) w)(w:qhr)(a:qkB 166 x.Wg w) :x.cfg.GM b (7+m) (G ((qij 85).at ⟨tmx x j (.bool true) (.tuple #[]) (q0h x) (z21 j) qhx,[]⟩ (.inRegion (qM (sqB (inn (sqA (sqB (sqB yK)))))) []::.inBlock 1::.code (sqB (sqB (sqB yK)))::Ki)) cs) w:=by
 refine qfm ?_;simp only[q4p,Ki,yK,Qp,xZ,x85,qly,qhC,sqA,sqB,inn,qM,tmx] at h ⊢;have c:IntKind.i64.wrap ((j:Int)+1)=j+1:=qin _ (by omega);u_c qhy qa a;u_c stepG_inBlock qa a;u_reg qa a;u_op qa a;u_op qa a;u_c qhy qa a;u_c stepG_inLoop qa a;refine qk9 (λw₁ h₁=>?_);have e:=h w₁ (qa a h₁);simp only[qge,qgd,qgc,qgb,Int.natCast_add,Int.cast_ofNat_Int] at e;exact e
noncomputable def qdB(x:Ph4)(cs:List qhG)(j:Nat):qhw:=G ((qij 85).at ⟨tmx x j (.bool true) (.tuple #[]) (z20 x j) (z21 j) qhx,[]⟩ (.inRegion (qM (sqA (inn (sqA (sqB (sqB yK)))))) []::.code (sqB (inn (sqA (sqB (sqB yK)))))::.inBlock 1::.code (sqB (sqB (sqB yK)))::Ki)) cs
def qap{S:qhw->qhr->Prop}{N j:Nat}(c:j<min 4 x.N)(h:∀w,qkB 166 x.Wg w->x.cfg.GM (x.cfg.AtGoS S) N (qdB x cs j) w)(w:qhr)(a:qkB 166 x.Wg w):x.cfg.GM (x.cfg.AtKdS S) 24 (q4p x cs j) w:=by
 refine Cfg.add_spawn (N:=N) ?_;have b:decide ((j:Int)<((min 4 x.N:Nat):Int))=true:=decide_eq_true (by omega);simp only[qdB,q4p,Ki,yK,Qp,xZ,x85,qly,qhC,sqA,sqB,inn,qM,tmx] at h ⊢;u_c qi5 qa a;u_reg qa a;u_op qa a;u_c qhy qa a;u_c qi5 qa a;u_cond true qa a;u_c qjj qa a;u_c qi5 qa a;u_c qoa qa a;u_c qi5 qa a;u_reg qa a;u_in qa a;refine goes_call rfl rfl (by k_ne) rfl Yy.f_add (nm_add link) rfl ⟨by u_nil,?_⟩
 walk_nrmf addFn
 exact addPos (L:=link) Yy h _ a
noncomputable def qfz(x:Ph4)(cs:List qhG)(j:Nat):qhw:=G ((qij 85).at ⟨tmx x j (.bool true) (.tuple #[]) (q0h x) (z21 j) qhx,[]⟩ (.inRegion (qM (sqB (inn (sqA (sqB (sqB yK)))))) []::.inBlock 1::.code (sqB (sqB (sqB yK)))::Ki)) cs
def qd8{S:qhw->qhr->Prop}{j:Nat}(h:∀w,qkB 166 x.Wg w->S (qfz x cs j) w)(w:qhr)(e:qkB 166 x.Wg w):x.cfg.GM (x.cfg.AtGoS S) (3+0) (qdB x cs j) w:=by
 refine Cfg.GM.of (C:=x.cfg) (Stop:=x.cfg.AtGoS S) ?_ (λ_ _ h=>h);simp only[qfz,qdB,Ki,yK,Qp,xZ,x85,qly,qhC,sqA,sqB,inn,qM,tmx] at h ⊢;u_c qhy qa e;u_reg qa e;u_op qa e;refine qk9 (λw₁ h₁=>?_);replace e:=qa e h₁;refine⟨rfl,_,born qi2 (q0u x.Wg x.Nx x.A x.Fd x.Y x.V x.B),?_,?_,h _ e⟩
 ·have l:=stepG_spawn (P:=qi2) (main:=true) (w:=w₁) (w':=w₁) (b:=qij 85) (cs:=cs) (i:=1) (rest:=[]) (d:=q0u x.Wg x.Nx x.A x.Fd x.Y x.V x.B) (f:=.func 139) (c:=jD x.Wg x.Nx x.A x.Fd x.Y x.V x.B)
   (ops:=(qM (sqB (inn (sqA (sqB (sqB yK))))))) (o:=(qM (sqB (inn (sqA (sqB (sqB yK))))))[1]'(by simp only[yK,Qp,x85,qly,qhC,sqA,sqB,inn,qM];decide)) (a:=⟨tmx x j (.bool true) (.tuple #[]) (q0h x) (z21 j) qhx,[]⟩) (k:=.inBlock 1::.code (sqB (sqB (sqB yK)))::Ki) (by simp) (by simp only[yK,Qp,x85,qly,qhC,sqA,sqB,inn,qM];rfl) (by k_ne) (by
    simp only[yK,Qp,x85,qly,qhC,sqA,sqB,inn,qM,tmx,q0h];go_simp;rfl) rfl
  refine Eq.trans ?_ (l.trans ?_)
  ·simp only[Ki,yK,Qp,xZ,x85,qly,qhC,sqA,sqB,inn,qM,tmx,q0h,jD,pt];rfl
  ·have n:listed qi2 (qij 85).fn ⟨tmx x j (.bool true) (.tuple #[]) (q0h x) (z21 j) qhx,[]⟩ ((qM (sqB (inn (sqA (sqB (sqB yK))))))[1]'(by simp only[yK,Qp,x85,qly,qhC,sqA,sqB,inn,qM];decide)) w₁=#[]:=by
    unfold listed;have:((qkA (Act.eval ⟨tmx x j (.bool true) (.tuple #[]) (q0h x) (z21 j) qhx,[]⟩) ((qM (sqB (inn (sqA (sqB (sqB yK))))))[1]'(by simp only[yK,Qp,x85,qly,qhC,sqA,sqB,inn,qM];decide))).events qi2 w₁ #[])=#[]:=by
     simp only[yK,Qp,x85,qly,qhC,sqA,sqB,inn,qM,tmx,q0h];simp[go_sem]
    rw[this,seen_none]
   rw[n];simp only[Ki,yK,Qp,xZ,x85,qly,qhC,sqA,sqB,inn,qM,tmx];rfl
 ·rintro g ⟨W,p⟩;exact⟨⟨⟨e,W,p⟩,g.fz,g.size,g.os⟩,.inl ⟨rfl,λ_ h=>h⟩⟩
noncomputable def q6n(x:Ph4):qhG:=(qij 85).at ⟨tmx x (min 4 x.N) (.bool false) (z19 (min 4 x.N)) (z20 x (min 4 x.N)) (z21 (min 4 x.N)) qhx,[]⟩ [.inRegion (qM (sqA xZ)) [0],.code (sqB xZ)]
noncomputable def qe1(x:Ph4):qhG:=(qij 85).at ⟨tmx x (min 4 x.N) (.bool false) (z19 (min 4 x.N)) (z20 x (min 4 x.N)) (z21 (min 4 x.N)) (.tuple #[]),[]⟩ [.inRegion (qM (sqA xZ)) [],.code (sqB xZ)]
def F0(x:Ph4)(cs:List qhG)(g:qhw)(w:qhr):Prop:=g=G (qe1 x) cs/\qkB 166 x.Wg w
def q0E(e:x.AnchW=J6 link x.Wg (q6n x) cs)(w:qhr)(a:qkB 166 x.Wg w):x.cfg.GM x.cfg.AtKd 13 (q4p x cs (min 4 x.N)) w:=by
 refine Cfg.kd_of ?_;have b:decide (((min 4 x.N:Nat):Int)<((min 4 x.N:Nat):Int))=false:=decide_eq_false (by omega);have c:x.cfg.AnchW=J6 link x.Wg (q6n x) cs:=e;rw[c];generalize d:min 4 x.N=n at b;simp only[q6n,q4p,Ki,yK,Qp,xZ,x85,qly,qhC,sqA,sqB,inn,qM,tmx,d];u_c qi5 qa a;u_reg qa a;u_op qa a;u_c qhy qa a;u_c qi5 qa a;u_cond false qa a;u_exit qa a;u_c qi5 qa a;u_reg qa a;u_in qa a;refine goes_call rfl rfl (by k_ne) rfl Yy.f_wait (nm_wait link) rfl ⟨by u_nil,?_⟩
 walk_nrmf waitFn
 exact Go.Co.waitStart (L:=link) Yy _ a
def qfk(d:x.AnchW=J6 link x.Wg (q6n x) cs):∀r j,j+r=min 4 x.N->(∀w,qkB 166 x.Wg w->x.cfg.Spawns r (q4p x cs j) w)/\(0<j->∀w,qkB 166 x.Wg w->x.cfg.Spawns r (qfz x cs (j - 1)) w):=by
 intro r;induction r with
 | zero=>
  intro j h;have e:j=min 4 x.N:=by omega
  subst e;refine⟨λw a=>⟨13,q0E d w a⟩,λg w a=>⟨7+13,?_⟩⟩;have e:min 4 x.N - 1+1=min 4 x.N:=by omega
  exact q0F (j:=min 4 x.N - 1) (by omega) (λw a=>by rw[e];exact q0E d w a) w a
 | succ r f=>
  intro j h;have b:=(f (j+1) (by omega)).2 (by omega);rw[Nat.add_sub_cancel] at b;have c:∀w,qkB 166 x.Wg w->x.cfg.GM (x.cfg.AtKdS (x.cfg.Spawns r)) 24 (q4p x cs j) w:=qap (N:=3+0) (by omega) (qd8 b);refine⟨λw a=>⟨24,c w a⟩,λg w a=>⟨7+24,?_⟩⟩;obtain⟨k,rfl⟩:∃k,j=k+1:=⟨j - 1,by omega⟩;exact q0F (by omega) c w a
def qcw(a:x.AnchW=J6 link x.Wg (q6n x) cs)(g:qhw)(w:qhr)(h:x.AnchW g w):g.status=.running:=by
 rw[a] at h;obtain⟨T,rfl,_⟩:=h;rfl
def qeo(b:x.AnchW=J6 link x.Wg (q6n x) cs)(a:x.Fin=λg w=>qnh qi2 true (LR 166 x.Wg) qoj (F0 x cs) 40 g w)(g:qhw)(w:qhr)(h:x.AnchW g w):∃m,x.cfg.GM x.cfg.AtW1 m g w:=by
 rw[b] at h;have f:=Go.Co.waitRound (L:=link) (Fin:=F0 x cs) Yy (b₀:=qij 85) (a₀:=⟨tmx x (min 4 x.N) (.bool false) (z19 (min 4 x.N)) (z20 x (min 4 x.N)) (z21 (min 4 x.N)) qhx,[]⟩) (ops₀:=qM (sqA xZ)) (i₀:=0) (rest₀:=[]) (k₀:=[.code (sqB xZ)]) (cs:=cs) ?_ g w h
 ·refine⟨30,Cfg.GM.of f λg w hm=>?_⟩;refine Cfg.w1_of (C:=x.cfg) (F0:=F0 x cs) (λg w d=>?_) ?_
  ·show x.Fin g w;rw[a];exact d
  ·have e:x.cfg.AnchW=x.AnchW:=rfl;rw[e,b];exact hm
 ·intro w c;refine⟨?_,c⟩;simp only[qe1,xZ,x85,qly,qhC,sqA,sqB,inn,qM,tmx];rfl
end
end
end Go.Proofs.YtidgnkmjgioapaaGreat
section
namespace Go.Co
open Go.Conc Go.ConcN Go.Sim
section
variable{P:qhF}{Post:qhu->qhr->Prop}{cl:Nat->Cl}{w:qhr}
def EE.of_goes{R:qhr->qhr->Prop}(c:∀w d,R w (w.at d)){b:qhw->qhr->Prop}(f:∀g d,b g (w.at d)->EE P Post cl g w):∀{n:Nat} {g:qhw} {d:Nat},qnh P true R qoj b n g (w.at d)->EE P Post cl g w:=by
 intro n;induction n with
 | zero=>exact λ{g d} h=>f g d (h _ (c _ _))
 | succ n i=>
  intro g d h;rcases h with h | ⟨k,h⟩
  ·exact f g d (h _ (c _ _))
  ·refine λs=>E.step k λa=>?_;have⟨l,q,r,e,⟨p,o⟩,j⟩:=goes_elim (h (w.at a) (c (w.at d) a));subst p;subst o;exact⟨l,w.at a,#[],e,qhv _,by simp,i j a⟩
def EE.enterB{b:qhG}{a:Act}{k:List qlG}{cs:List qhG}{d:Array qjn}{i:Nat}{e:List Nat}{o:qjn}{f:qj8}{g:Func}{c:qkh}{args:Array qiy}{l:Array qi4}(p:d[i]?=some o)(n:qip o (qjt d a.tmps)=true)(q:b.kind≠.early)(j:o.op=.call { callee:=.value (.func f),args,argTypes:=l })(hf:P.funcs[f]?=some g)(hname:(g.name == "runtime.NumGoroutine")=false)(hb:g.body=some c)(h:EE P Post cl (G ((base f).at { tmps:=args.map a.eval++qiE (g.ntmps - (args.map a.eval).size) qhx,defers:=[] } [.code c]) (b.at a (.inRegion d (i::e)::k)::cs)) w) :EE P Post cl (G (b.at a (.inRegion d (i::e)::k)) cs) w :=
 EE.enter p n q j hf hname (by rw[hb];rfl) (by rw[enter_at _ hf hb];exact h)
def qc8{A o a:Nat}(h:cl A=.sync)(f:A<a):EvG cl a 0 ⟨.cell ⟨A,o,none⟩,false,true⟩/\jA ⟨.cell ⟨A,o,none⟩,false,true⟩:=by
 refine⟨λx d b e=>?_,by simp[jA],by simp,by simp⟩;have c:x=⟨.cell ⟨A,o,none⟩,false,.atomic⟩:=by simp[qjq,qkg] at d;exact d.symm
 subst c;simp only[blk,qiD] at e;subst e;exact⟨f,.inr (.inr ⟨h,by simp,by simp⟩)⟩
end
end Go.Co
namespace Go.Proofs.YtidgnkmjgioapaaGreat
open Go Go.RowKit Go.Conc Go.ConcN Go.ConcN.Gen Go.Conc.Lib Go.ConcR.Gen Go.Co Go.Sim
section
variable{x:Ph4}{cs:List qhG}
def after{Post:qhu->qhr->Prop}{cl:Nat->Cl}{w:qhr}{v:Bool}(f:w.heap[x.Fd]?=some (.cells #[.int .u32 (if v then 1 else 0)] 161 (0,0)))(i:cl x.Fd=.sync)(j:∀b,w.heap.size<=b->cl b=.mine 0)(c:∀t g,t.getD 6 qhx=.bool v->EE qi2 Post cl (G { (qij 85).at ⟨t,[]⟩ g with mode:=.returning } cs) w):EE qi2 Post cl (G (qe1 x) cs) w:=by
 have h:x.Fd<w.heap.size:=(qhs.1 f).1;have a:∀d,(w.at d).cell? x.Fd=some (.int .u32 (if v then 1 else 0)):=λd=>QU f rfl;generalize l:min 4 x.N=n;simp only[qe1,xZ,x85,qly,qhC,sqA,sqB,inn,qM,tmx,l];refine EE.region_end ?_;refine EE.seq ?_;refine EE.region ?_;simp only[qim,qhE,qi1,qib,qi6,qil,qj2];refine EE.enterB rfl rfl (by k_ne) rfl qop (by kernel_rfl) rfl ?_
 walk_nrmf qod
 refine EE.seq ?_;refine EE.region ?_;simp only[qim,qhE,qi1,qib,qi6,qil,qj2];refine EE.value (.bool false) rfl rfl (by k_ne) (λ_=>by go_simp) (λ_=>by simp[go_sem]) ?_;walk_nrm;refine EE.region_end ?_;refine EE.seq ?_;refine EE.region ?_;simp only[qim,qhE,qi1,qib,qi6,qil,qj2];refine EE.value (.pointer (some x.Fd)) rfl rfl (by k_ne) (λ_=>by go_simp) (λ_=>by simp[go_sem]) ?_;walk_nrm;refine EE.value (.pointer (some x.Fd)) rfl rfl (by k_ne) (λ_=>by go_simp) (λ_=>by simp[go_sem]) ?_;walk_nrm;refine EE.value (.pointer (some x.Fd)) rfl rfl (by k_ne) (λ_=>by go_simp) (λ_=>by simp[go_sem]) ?_;walk_nrm;refine EE.raw w cl rfl (λd=>⟨_,qmn rfl rfl (by k_ne) rfl Tryz.func180 (by kernel_rfl) (by kernel_rfl) (by kernel_rfl) .u32 (by kernel_rfl) rfl (a d),?_⟩) (qhv _) (λ_ _=>rfl) j ?_
 ·intro e k;simp at k;subst k;exact qc8 i h
 walk_nrm;clear a f;cases v with
 | false=>
  simp only[if_false,qiv];refine EE.value (.bool false) rfl rfl (by k_ne) (λ_=>by go_simp) (λ_=>by simp[go_sem]) ?_;walk_nrm;refine EE.value (.bool false) rfl rfl (by k_ne) (λ_=>by go_simp) (λ_=>by simp[go_sem]) ?_;walk_nrm;refine EE.region_end ?_;refine EE.retS ?_;refine EE.leave1 rfl rfl qop rfl ?_;walk_nrm;refine EE.value (.bool false) rfl rfl (by k_ne) (λ_=>by go_simp) (λ_=>by simp[go_sem]) ?_;walk_nrm;refine EE.region_end ?_;refine EE.retS ?_;exact c _ _ rfl
 | true=>
  simp only[if_true];refine EE.value (.bool true) rfl rfl (by k_ne) (λ_=>by go_simp) (λ_=>by simp[go_sem]) ?_;walk_nrm;refine EE.value (.bool true) rfl rfl (by k_ne) (λ_=>by go_simp) (λ_=>by simp[go_sem]) ?_;walk_nrm;refine EE.region_end ?_;refine EE.retS ?_;refine EE.leave1 rfl rfl qop rfl ?_;walk_nrm;refine EE.value (.bool true) rfl rfl (by k_ne) (λ_=>by go_simp) (λ_=>by simp[go_sem]) ?_;walk_nrm;refine EE.region_end ?_;refine EE.retS ?_;exact c _ _ rfl
end
end Go.Proofs.YtidgnkmjgioapaaGreat
end
section
namespace Go.Proofs.YtidgnkmjgioapaaGreat
open Go Go.RowKit Go.Conc Go.ConcN Go.ConcN.Gen Go.Conc.Lib Go.ConcR.Gen Go.Co Go.Sim
namespace Ph4
noncomputable def on(x:Ph4)(a:List qhG):Ph4:={ x with Fin:=λg w=>qnh qi2 true (LR 166 x.Wg) qoj (F0 x a) 40 g w,AnchW:=J6 link x.Wg (q6n x) a }
def qgD{a:qi4}{e:Nat}(w:qhr)(d:Nat):LR a e w (w.at d):=λ⟨b,c,h⟩=>⟨b,c,h⟩
def all{x:Ph4}{cs:List qhG}(o:(x.on cs).Ok)(c:∀t a w (v:Bool),(v=true↔∃i,i<x.N/\x.bad i=true)->(x.on cs).cfg.Ph w->t.getD 6 qhx=.bool v->EE qi2 x.Post (flat x.clA) (G { (qij 85).at ⟨t,[]⟩ a with mode:=.returning } cs) w):(x.on cs).cfg.Ok :=
 o.cfg (qcw (cs:=cs) rfl) (qeo (cs:=cs) rfl rfl) λW ls g w p hJ k l f=>by
  have e:qnh qi2 true (LR 166 x.Wg) qoj (F0 x cs) 40 g (w.at w.drawn):=p;refine(EE.of_goes (λw d=>qgD w d) (λg d j=>?_) e) w.drawn;obtain⟨rfl,_⟩:=j;refine after (v:=W.2) l.2 ?_ (λb n=>?_) λt a h=>c t a w W.2 (J.final hJ k) f h
  ·have:=o.sync x.Fd (by simp[jks,on]);unfold flat;rw[show(x.on cs).clA x.Fd=.sync from this]
  ·have:=o.cla0 b (qhB f.size n);unfold flat;rw[show(x.on cs).clA b=.mine 0 from this]
end Ph4
def q2j(n a:Nat)(d:Nat->Cl)(b:Nat):Cl:=match d b with | .mine 0=>if b<n then .ro a else .mine 0 | c=>c
def Yn{n a b:Nat}{c:Nat->Cl}(h:c b=.mine 0)(d:b<n):q2j n a c b=.ro a:=by unfold q2j;rw[h];simp[d]
def YW{n c b:Nat}{a:Nat->Cl}(h:a b=.mine 0)(d:n<=b):q2j n c a b=.mine 0:=by unfold q2j;rw[h];simp;omega
def Ym{n d b:Nat}{a:Nat->Cl}(h:a b≠.mine 0):q2j n d a b=a b:=by
 unfold q2j;cases hc:a b with
 | mine g=>
  cases g with
  | zero=>exact absurd hc h
  | succ g=>rfl
 | ro c=>rfl
 | sync=>rfl
def xC(Y V B A:Nat)(a:List Nat):List Nat:=0::Y::V::B::A::a
def qgu{M:Nat}{Post:qhu->qhr->Prop}[JunkSet]{w0:qhr}{d8:Nat->Cl}{ρ0:Ren}{yb R Q ab:Option qiG}{ps:List Par}{yc pn pc vn vc N ac:Nat}{lim:Int}{Y B V A Nx Fd Wg:Nat}{O:Ren}{wq:qhr}{w:qhr}{D:Nat->Cl}{cs:List qhG}{l wl:List Int}{c:Nat->Nat->Int}{s:List Nat}(j:At5 Ya M w0 d8 ρ0 yb R Q ab ps.length yc pn pc vn vc N ac lim Y B V A Nx Fd Wg O wq w D)(a9:∀b∈s,D b=.mine 0/\∃cs e f,w.heap[b]?=some (.cells cs e f)/\∀(i:Nat) v,cs[i]?=some v->∃k m,v=.int k m)(h0:∃cs e f,w.heap[0]?=some (.cells cs e f)/\∀(i:Nat) v,cs[i]?=some v->∃k m,v=.int k m)(d6:D 0=.mine 0)(T:∀a,yb=some a->a.block∈s)(Z:∀a,R=some a->a.block∈s)(W:∀a,Q=some a->a.block∈s)(b0:∀a,ab=some a->a.block∈s)(pars:qr 0 w.heap.size w (.slice yb ps.length yc) ps)(ints:qg 0 w.heap.size w (.slice Q vn vc) wl)(intp:qg 0 w.heap.size w (.slice R pn pc) l)(cas:vw 0 w.heap.size w (.slice ab N ac) N c)(n5:ps.length<=5)(bmn:∀i,0<=pre Par.mn ps ps.length i/\pre Par.mn ps ps.length i<=1000)(bmx:∀i,0<=pre Par.mx ps ps.length i/\pre Par.mx ps ps.length i<=1000)(bc:∀i d,0<=c i d/\c i d<=1000)(hl:∀y∈l,0<=y/\y<ps.length)(ll:l.length<=1000)(hwl:∀y∈wl,0<=y/\y<5)(hN:N<=900000)(a8:∀t F L cl6 (v:Bool),(v=true↔∃i,i<N/\(qx ps (ovr (c i) (pre Par.mn ps ps.length) wl wl.length) l && !qx ps (ovr (c i) (pre Par.mx ps ps.length) wl wl.length) l)=true)->(∀b,b<w.heap.size->D b=.mine 0->L.heap[b]?=w.heap[b]?)->w.heap.size<=L.heap.size->L.os=w.os->L.output=w.output ->(∀b,D b=.mine 0->cl6 b=.mine 0)->(∀b,L.heap.size<=b->cl6 b=.mine 0)->t.getD 6 qhx=.bool v->EE qi2 Post cl6 (G { (qij 85).at ⟨t,[]⟩ F with mode:=.returning } cs) L) :EE qi2 Post D (G ((qij 85).at ⟨qfa yb R Q ab ps.length yc pn pc vn vc N ac lim Y B V A Nx Fd Wg 0 qhx undef undef undef,[]⟩ [.code Qp,.code xZ]) cs) w:=by
 have e1:Qp=.block 0 (.loop yK):=by kernel_rfl
 rw[e1];refine EE.block ?_;refine EE.loop ?_;intro d;refine E.crowd (U:=Nat × Bool) (X:=Lam) λlo hlo=>?_
 let x:Ph4:={ W1:=w.at d,clA:=q2j w.heap.size lo D,lo:=lo,Wg:=Wg,Nx:=Nx,A:=A,Fd:=Fd,Y:=Y,V:=V,B:=B,ps:=ps,lim:=lim,l:=l,wl:=wl,N:=N,c:=c,yb:=yb,yc:=yc,ab:=ab,ac:=ac,pv:=.slice R pn pc,vv:=.slice Q vn vc,nds:=xC Y V B A s,Post:=Post,Fin:=λ_ _=>False,AnchW:=λ_ _=>False }
 have qA:∀{b:Nat} {o:Obj},w.heap[b]?=some o->b<w.heap.size:=λh=>(qhs.1 h).1;have P:∀b∈xC Y V B A s,D b=.mine 0/\b<w.heap.size:=by
  intro b n;simp only[xC,qjr] at n;obtain⟨d7,e0,f0,h0,a7⟩:=h0;rcases n with rfl | rfl | rfl | rfl | rfl | n
  ·exact⟨d6,qA h0⟩
  ·exact⟨j.cY,qA j.hY⟩
  ·exact⟨j.cV,qA j.hV⟩
  ·exact⟨j.cB,qA j.hB⟩
  ·exact⟨j.cA,qA j.hA⟩
  ·have⟨k1,cs,e,f,k2,_⟩:=a9 b n;exact⟨k1,qA k2⟩
 have b6:∀b∈xC Y V B A s,x.clA b=.ro lo:=λb n=>Yn (P b n).1 (P b n).2;have S:∀b∈[Wg,Nx,Fd],D b=.sync/\b<w.heap.size:=by
  intro b n;simp only[qjr,qjG,or_false] at n;rcases n with rfl | rfl | rfl
  ·exact⟨j.cWg,qA j.hWg⟩
  ·exact⟨j.cNx,qA j.hNx⟩
  ·exact⟨j.cFd,qA j.hFd⟩
 have p:∀{a:qiG},a.block∈s->a.block∈xC Y V B A s:=λh=>by simp[xC,h]
 have e4:∀b∈xC Y V B A s,BR x.r0 b b:=λb n=>JW.2 ⟨(P b n).2,rfl,.inl n⟩;have H:∀(q:Option qiG) (m k:Nat),(∀a,q=some a->a.block∈s)->@VR x.js x.r0 (.slice q m k) (.slice q m k):=λq m k hq=>by
  cases q with
  | none=>exact @VR.sliceNil x.js _ m k
  | some a=>exact @VR.slice x.js _ _ _ a.off a.spot m k (e4 _ (p (hq a rfl)))
 have one:∀(v:qhu),@VR x.js x.r0 v v->∀(i:Nat) (u:qhu),(#[v]:Array qhu)[i]?=some u->@VR x.js x.r0 u u:=λv z i u hu=>by
  cases i with
  | zero=>simp at hu;rw[<- hu];exact z
  | succ i=>simp at hu
 have o:(x.on cs).Ok:={
  hlo:=hlo
  hY:=j.hY
  hV:=j.hV
  hB:=j.hB
  hA:=j.hA
  pars:=pars
  ints:=ints
  intp:=intp
  cas:=cas
  n5:=n5
  bmn:=bmn
  bmx:=bmx
  bc:=bc
  hl:=hl
  ll:=ll
  hwl:=hwl
  hN:=hN
  jlt:=λb n=>(S b n).2
  ne1:=by have:=j.l2;show Nx≠Fd;omega
  ne2:=by have:=j.l2;have:=j.l3;show Wg≠Nx;omega
  ne3:=by have:=j.l3;show Wg≠Fd;omega
  sync:=λb n=>by
   have h1:=(S b n).1;exact(Ym (by rw[h1];simp)).t h1
  nro:=b6
  nok:=by
   intro b n;have r:b∈xC Y V B A s:=n;simp only[xC,qjr] at r;obtain⟨d7,e0,f0,h0,a7⟩:=h0;rcases r with rfl | rfl | rfl | rfl | rfl | r
   ·exact⟨_,_,_,h0,λi v z=>by obtain⟨k,m,rfl⟩:=a7 i v z;exact @VR.int (x.on cs).js _ k m⟩
   ·refine⟨_,_,_,j.hY,λi v z=>?_⟩;have hi:i=0\/i=1:=by
     have:=(qhs.1 z).1;simp at this;omega
    rcases hi with rfl | rfl
    ·simp at z;rw[<- z];exact H _ _ _ T
    ·simp at z;rw[<- z];exact @VR.int x.js _ _ _
   ·exact⟨_,_,_,j.hV,one _ (H _ _ _ W)⟩
   ·exact⟨_,_,_,j.hB,one _ (H _ _ _ Z)⟩
   ·exact⟨_,_,_,j.hA,one _ (H _ _ _ b0)⟩
   ·have⟨k1,cs1,e,f,k2,k3⟩:=a9 b r;refine⟨_,_,_,k2,λi v z=>?_⟩;obtain⟨k,m,rfl⟩:=k3 i v z;exact @VR.int x.js _ _ _
  n0:=by show 0∈xC Y V B A s;simp[xC]
  nY:=by show Y∈xC Y V B A s;simp[xC]
  nV:=by show V∈xC Y V B A s;simp[xC]
  nB:=by show B∈xC Y V B A s;simp[xC]
  nA:=by show A∈xC Y V B A s;simp[xC]
  nyb:=λq oo n' c' e _=>by cases e;exact p (a:=⟨q,oo,none⟩) (T _ rfl)
  nvv:=λq oo n' c' e _=>by cases e;exact p (a:=⟨q,oo,none⟩) (W _ rfl)
  npv:=λq oo n' c' e _=>by cases e;exact p (a:=⟨q,oo,none⟩) (Z _ rfl)
  nab:=λq oo n' c' e _=>by cases e;exact p (a:=⟨q,oo,none⟩) (b0 _ rfl)
  cla0:=λb n=>by
   have r:w.heap.size<=b:=n;exact YW (j.c0 b r) r }
 refine⟨(x.on cs).cfg,rfl,rfl,rfl,rfl,Ph4.all o ?_,λb n=>?_,?_,j.hWg,(0,false),λ_=>.st,⟨j.hNx,j.hFd⟩,?_⟩
 ·intro t F L v z hp ht;refine a8 t F L _ v z (λb n I=>?_) hp.size hp.os hp.output (λb n=>?_) (λb n=>?_) ht
  ·exact hp.fz b ⟨n,Yn I n⟩
  ·show flat (q2j w.heap.size lo D) b=_;unfold flat;rcases qjy b w.heap.size with C | C
   ·rw[Yn n C]
   ·rw[YW n C]
  ·show flat (q2j w.heap.size lo D) b=_;have C:w.heap.size<=b:=qhB hp.size n;unfold flat;rw[YW (j.c0 b C) C]
 ·have r:b<w.heap.size:=n;cases I:D b with
  | mine g=>
   cases g with
   | zero=>exact .inr ⟨rfl,Yn I r⟩
   | succ g=>exact .inl ((Ym (by rw[I];simp)).t I)
  | ro e8=>exact .inl ((Ym (by rw[I];simp)).t I)
  | sync=>exact .inl ((Ym (by rw[I];simp)).t I)
 ·have d5:=(qfk (x:=x.on cs) (cs:=cs) rfl (min 4 N) 0 (by show 0+min 4 N=min 4 N;omega)).1 (w.at d) ⟨_,_,j.hWg⟩;exact d5
 ·exact⟨qiu _,λh=>(by cases h),λ_ i _ h=>absurd h (Nat.not_lt_zero i),λk hk=>absurd hk (Nat.not_lt_zero k)⟩
end Go.Proofs.YtidgnkmjgioapaaGreat
end
namespace Go.Proofs.YtidgnkmjgioapaaGreat
section
open Go Go.RowKit Go.Conc Go.ConcN Go.ConcN.Gen Go.Conc.Lib Go.ConcR.Gen Go.Co Go.Sim
def qX(w:qhr)(B:Nat):Prop:=∃a e f,w.heap[B]?=some (.cells a e f)/\∀(i:Nat) v,a[i]?=some v->∃k m,v=.int k m
def qU(w:qhr)(v:qhu):Prop:=∀a n c,v=.slice (some a) n c->qX w a.block
section
variable[JunkSet]{Q:qhF}{Z:Ren}{wq w:qhr}{M:Nat}
def qdx{b a:Array qhu}(h:AsR Z b a)(g:∀(i:Nat) v,b[i]?=some v->∃k m,v=.int k m):a=b:=by
 refine Array.ext h.1.symm λi j d=>?_;have⟨k,m,e⟩:=g i b[i] (qih d);have c:=h.2 i _ _ (qih d) (qih j);rw[e] at c ⊢;generalize a[i]=y at c;cases c;rfl
def qa9(g:WR Q M Z wq w)(a:∀i,¬ JunkSet.jk i){i j:Nat}(b:BR Z i j){c:Array qhu}{e:qi4}{f:Nat × Nat}(h:wq.heap[i]?=some (.cells c e f))(l:∀(i:Nat) v,c[i]?=some v->∃k m,v=.int k m):∃q,w.heap[j]?=some (.cells c e q):=by
 rcases g.obj i j _ b h with⟨p,_⟩ | ⟨_,r,d,o⟩
 ·exact absurd p (a i)
 ·cases o with
  | cells e n _=>
   rw[qdx n l] at d;exact⟨_,d⟩
def qa7(d:WR Q M Z wq w)(a:∀i,¬ JunkSet.jk i){i j:Nat}(b:BR Z i j)(h:qX wq i):qX w j:=by
 obtain⟨n,e,f,k,c⟩:=h;have⟨l,g⟩:=qa9 d a b k c;exact⟨n,e,l,g,c⟩
def q5r(l:WR Q M Z wq w)(a:∀i,¬ JunkSet.jk i){i j:Nat}(b:BR Z i j)(n:qX wq i){k:Array qhu}{e:qi4}{f:Nat × Nat}(h:wq.heap[i]?=some (.cells k e f)):∃c,w.heap[j]?=some (.cells k e c)/\j<w.heap.size:=by
 obtain⟨p,q,f1,g,o⟩:=n;rw[h] at g;cases g;have⟨c,d⟩:=qa9 l a b h o;exact⟨c,d,(qhs.1 d).1⟩
def q73(t:WR Q M Z wq w)(d:∀i,¬ JunkSet.jk i){s x:Nat}{v k:qhu}{l:List Int}(h:qg s x wq v l)(y:qU wq v)(u:VR Z v k):qg 0 w.heap.size w k l:=by
 obtain⟨base,b,rfl,q,p⟩:=h;cases u with
 | sliceNil=>exact⟨none,b,rfl,q,λa=>by have⟨B,o,r,F,e,_⟩:=p a;cases e⟩
 | @slice i j c n _ _ g=>
  refine⟨_,b,rfl,q,λa=>?_⟩;have⟨B,o,r,F,e,_,_,D,C⟩:=p a;cases e;have⟨G,A,z⟩:=q5r t d g (y _ _ _ rfl) D;exact⟨j,c,r,G,rfl,qiu _,z,A,C⟩
def qd1(t:WR Q M Z wq w)(d:∀i,¬ JunkSet.jk i){s x:Nat}{v k:qhu}{l:List Par}(h:qr s x wq v l)(y:qU wq v)(u:VR Z v k):qr 0 w.heap.size w k l:=by
 obtain⟨base,b,rfl,q,p⟩:=h;cases u with
 | sliceNil=>exact⟨none,b,rfl,q,λa=>by have⟨B,o,r,F,e,_⟩:=p a;cases e⟩
 | @slice i j c n _ _ g=>
  refine⟨_,b,rfl,q,λa=>?_⟩;have⟨B,o,r,F,e,_,_,D,C⟩:=p a;cases e;have⟨G,A,z⟩:=q5r t d g (y _ _ _ rfl) D;exact⟨j,c,r,G,rfl,qiu _,z,A,C⟩
def qa8(x:WR Q M Z wq w)(g:∀i,¬ JunkSet.jk i){u z:Nat}{v l:qhu}{n:Nat}{c:Nat->Nat->Int}(h:vw u z wq v n c)(A:qU wq v)(y:VR Z v l):vw 0 w.heap.size w l n c:=by
 obtain⟨base,b,rfl,s,r⟩:=h;cases y with
 | sliceNil=>exact⟨none,b,rfl,s,λa=>by have⟨B,o,t,p,H,e,_⟩:=r a;cases e⟩
 | @slice i j d q _ _ k=>
  refine⟨_,b,rfl,s,λa=>?_⟩;have⟨B,o,t,p,H,e,_,_,G,F⟩:=r a;cases e;have⟨I,D,C⟩:=q5r x g k (A _ _ _ rfl) G;exact⟨j,d,t,p,I,rfl,qiu _,C,D,F⟩
def Yj{h:Nat->Cl}(k:WR Q M Z wq w)(d:∀i,¬ JunkSet.jk i)(o:kX h Z){q g:Option qiG}{n c:Nat}(p:qU wq (.slice g n c))(l:VR Z (.slice g n c) (.slice q n c)):∀b,q=some b->h b.block=.mine 0/\qX w b.block:=by
 rintro b rfl;cases l with
 | slice j e _ _ a=>exact⟨o _ _ a,qa7 k d a (p _ _ _ rfl)⟩
def qa1{v:qhu}(h:VR Z qhx v):v=qhx:=by
 unfold qhx at h;cases h with
 | tuple a _=>
  have:=qmz (by simpa using a.symm);rw[this];rfl
def qg5{q:Option qiG}{n c:Nat}{m:Int}{y:qhu}(h:VR Z (.agg #[.slice q n c,m]) y):∃a,y=.agg #[.slice a n c,m]/\VR Z (.slice q n c) (.slice a n c):=by
 cases h with
 | @agg _ b k e=>
  have l:b.size=2:=by simpa using k.symm
  have d:=e 0 (.slice q n c) _ rfl (qih (by omega));have g:=e 1 (.int .i64 m) _ rfl (qih (by omega));obtain⟨a,j⟩:∃a,b[0]'(by omega)=.slice a n c:=by
   generalize b[0]'(by omega)=z at d;cases d<;>exact⟨_,rfl⟩
  have o:b[1]'(by omega)=.int .i64 m:=by
   generalize b[1]'(by omega)=z at g;cases g;rfl
  rw[j] at d;refine⟨a,?_,d⟩
  congr 1
  refine Array.ext (by simp[l]) λi r p=>?_;obtain rfl | rfl:i=0\/i=1:=by omega
  ·exact j
  ·exact o
def qgl{d c b:qhu}{a:Array qhu}{n:Nat}(h:AsR Z (#[d,c,b]++qiE n qhx) a):∃o l k,a=#[o,l,k]++qiE n qhx/\VR Z d o/\VR Z c l/\VR Z b k:=by
 have q:a.size=3+n:=by rw[<- h.1];simp
 have g:∀i (j:i<a.size) x,(#[d,c,b]++qiE n qhx:Array qhu)[i]?=some x->VR Z x a[i]:=λi j x p=>h.2 i x _ p (qih j);refine⟨a[0]'(by omega),a[1]'(by omega),a[2]'(by omega),?_,g 0 (by omega) d (by simp[qlh]),g 1 (by omega) c (by simp[qlh]),g 2 (by omega) b (by simp[qlh])⟩;refine Array.ext (by simp[q]) λi s t=>?_;by_cases j:i<3
 ·obtain rfl | rfl | rfl:i=0\/i=1\/i=2:=by omega
  all_goals simp[qql]
 ·have r:i - 3<n:=by omega
  have e:(#[d,c,b]++qiE n qhx:Array qhu)[i]?=some qhx:=by
   rw[Array.getElem?_append_right (by simp;omega),Array.getElem?_replicate];simp[r]
  have:=qa1 (g i s qhx e);rw[this];simp[qql,j]
end
def Cas(N:Nat)(c:Nat->Nat->Int)(wq:qhr)(v:qhu)(u:qhr):Prop:=vw 0 u.heap.size u v N c/\qU u v/\(wq.tp u.tape).gb u none
def q7u:Tryz.f85.results=#[.tmp 6]:=rfl
def qc1:Tryz.f85.ntmps=24:=rfl
section
variable[J:JunkSet]{f:qj8}{Post:qhu->qhr->Prop}{W:qhr}
def EL.doubtful(D:Two Ya qi2)(l8:JunkSet.okf 137)(x:∀i,¬ JunkSet.jk i)(m3:Ya.inits.idxOf? f=none)(m6:∃g,Ya.funcs[f]?=some g/\Tryz.prog.funcs[f]?=some g){b:qhG}{a:Act}{k:List qlG}{cs:List qhG}{wq:qhr}(hb:Bot f cs)(hs:Ya.funcs[b.fn]?=Tryz.prog.funcs[b.fn]?){X:Array qjn}{i:Nat}{b0:List Nat}{o:qjn}(ho:X[i]?=some o)(hw:qip o (qjt X a.tmps)=true){L b8 U:Option qiG}{r:List Par}{l F:List Int}{yc pc vc N:Nat}{c:Nat->Nat->Int}{a6:Int}(e9:∀T,(qkA a.eval o).run Ya (wq.tp T)=.ok (.enter 85 #[.agg #[.slice L r.length yc,a6],.slice b8 l.length pc,.slice U F.length vc]) (wq.tp T))(d9:qr 0 wq.heap.size wq (.slice L r.length yc) r)(yi:qU wq (.slice L r.length yc))(e5:qg 0 wq.heap.size wq (.slice b8 l.length pc) l)(pi:qU wq (.slice b8 l.length pc))(e4:qg 0 wq.heap.size wq (.slice U F.length vc) F)(vi:qU wq (.slice U F.length vc))(h0:qX wq 0)(n5:r.length<=5)(p3:∀i,0<=pre Par.mn r r.length i/\pre Par.mn r r.length i<=1000)(n9:∀i,0<=pre Par.mx r r.length i/\pre Par.mx r r.length i<=1000)(bc:∀i d,0<=c i d/\c i d<=1000)(hl:∀y∈l,0<=y/\y<r.length)(ll:l.length<=1000)(l6:∀y∈F,0<=y/\y<5)(hN:N<=900000)(h9:∀T,qis Ya 137 #[.agg #[.slice L r.length yc,a6],.slice U F.length vc] (wq.tp T) λe u=>∃v,e=.returned v/\Cas N c wq v u)(h8:∀u (v:Bool),(v=true↔∃i,i<N/\(qx r (ovr (c i) (pre Par.mn r r.length) F F.length) l && !qx r (ovr (c i) (pre Par.mx r r.length) F F.length) l)=true)->(wq.tp u.tape).gb u none ->EL Ya qi2 f Post W (G ((b.at a (.inRegion X (i::b0)::k)).finish (.bool v)) cs) u) :EL Ya qi2 f Post W (G (b.at a (.inRegion X (i::b0)::k)) cs) wq:=by
 obtain⟨fq,m7,l9⟩:∃fq,Ya.funcs[85]?=some fq/\fq.ntmps=Tryz.f85.ntmps:=by
  have h1:(Ya.funcs[85]?).map (·.ntmps)=some 24:=by kernel_rfl
  cases hq:Ya.funcs[85]? with
  | none=>rw[hq] at h1;cases h1
  | some fq=>rw[hq] at h1;exact⟨fq,rfl,by simpa using h1⟩
 refine EL.enterK D hb hs ho hw e9 ne85 m7 Tryz.func85 l9 (c0:=Tryz.f85.body.getD .skip) (by kernel_rfl) ?_;intro Z tp c' p9 R w cl m8 z;rw[qc1] at z;obtain⟨y0,y1,y2,rfl,v0,v1,v2⟩:=qgl (n:=21) (by simpa using z.tm);obtain⟨yb,rfl,vy⟩:∃yb,y0=.agg #[.slice yb r.length yc,a6]/\VR Z (.slice L r.length yc) (.slice yb r.length yc):=qg5 v0;obtain⟨pb,rfl⟩:∃pb,y1=.slice pb l.length pc:=by cases v1<;>exact⟨_,rfl⟩
 obtain⟨vb,rfl⟩:∃vb,y2=.slice vb F.length vc:=by cases v2<;>exact⟨_,rfl⟩
 have c3:EE qi2 Post cl (G ((qij 85).at ⟨#[.agg #[.slice yb r.length yc,a6],.slice pb l.length pc,.slice vb F.length vc]++qiE 21 qhx,[]⟩ [.code (Tryz.f85.body.getD .skip)]) (c'::R)) w:=by
  refine qgg D l8 (Rc:=Cas N c wq) z.c0 z.ln z.wr z.gl z.own v0 v2 x h9 (λv u h=>by obtain⟨⟨b1,c1,e,_⟩,_⟩:=h;exact⟨b1,N,c1,e⟩) ?_;intro O s v Y B V A Nx Fd Wg ab N' ac w5 k6 n4 b9 p;obtain⟨b7,k0,I⟩:=n4;obtain⟨b1,c1,rfl,t6,t8⟩:=id b7;obtain⟨rfl,rfl⟩:N'=N/\ac=c1:=by cases b9<;>exact⟨rfl,rfl⟩
  have gb:∀{B:Nat},qX wq B->qX s B:=λ⟨n6,e,g,h1,h2⟩=>⟨n6,e,g,by rw[I.block _ (qhs.1 h1).1 (by simp)];exact h1,h2⟩;have gi:∀{v:qhu},qU wq v->qU s v:=λh S n c e=>gb (h S n c e);have e6:=vy.mono p.le;have g6:=v1.mono p.le;have e8:=v2.mono p.le;have t1:=Yj p.wr x p.own (gi yi) e6;have t2:=Yj p.wr x p.own (gi pi) g6;have t3:=Yj p.wr x p.own (gi vi) e8;have t4:=Yj p.wr x p.own k0 b9
  let bl:List Nat:=(yb.toList++pb.toList++vb.toList++ab.toList).map (·.block)
  have n2:∀b∈bl,k6 b=.mine 0/\qX w5 b:=by
   intro b hb;simp only[bl,qlp,qku,qrk] at hb;obtain⟨S,(((h | h) | h) | h),rfl⟩:=hb
   ·exact t1 S h
   ·exact t2 S h
   ·exact t3 S h
   ·exact t4 S h
  have C:∀{q:Option qiG},q∈[yb,pb,vb,ab]->∀S,q=some S->S.block∈bl:=by
   intro q hq S e;subst e;simp only[qjr,qjG,or_false] at hq;simp only[bl,qlp,qku,qrk];refine⟨S,?_,rfl⟩;rcases hq with h | h | h | h<;>simp[<- h]
  have k7:BR O 0 0:=(z.gl 0 (qiu _)).mono p.le;refine qgu p n2 ?_ (p.own _ _ k7) (C (by simp)) (C (by simp)) (C (by simp)) (C (by simp)) (qd1 p.wr x (show qr 0 wq.heap.size s _ r from d9.kept (w:=wq.tp s.tape) I (by simp)) (gi yi) e6) (q73 p.wr x (show qg 0 wq.heap.size s _ F from e4.kept (w:=wq.tp s.tape) I (by simp)) (gi vi) e8) (q73 p.wr x (show qg 0 wq.heap.size s _ l from e5.kept (w:=wq.tp s.tape) I (by simp)) (gi pi) g6) (qa8 p.wr x b7 k0 b9) n5 p3 n9 bc hl ll l6 hN ?_
  ·obtain⟨cs,e,g,h0,m4⟩:=h0;have h1:s.heap[0]?=some (.cells cs e g):=by rw[I.block 0 (qhs.1 h0).1 (by simp)];exact h0
   exact qa7 p.wr x k7 ⟨cs,e,g,h1,m4⟩
  ·intro t todo w6 u0 v hv g9 l7 g8 g7 b6 m9 ht;have n3:W.heap.size<=w.heap.size:=z.kp.size;have c5:∀b,b<W.heap.size->k6 b=.mine 0:=λb hb=>(p.cold b (qi0 hb n3)).t (z.om b hb);have s6:w.heap.size<=w5.heap.size:=p.kp.size;refine EE.pure (g':=G (c'.finish (.bool v)) R) rfl (λw=>?_) λd=>?_
   ·have hr:(qke qly t).run qi2 w=.ok (.bool v) w:=by rw[<- ht];exact results_tmp q7u t qi2 w
    exact stepG_leave (P:=qi2) (main:=true) (b:=qij 85) (a:=⟨t,[]⟩) (cs:=R) (c:=c') (todo:=todo) (fn:=qly) rfl rfl Tryz.func85 hr (qo6 q7u _ _)
   ·have e7:WR Ya W.heap.size O s w6:=p.wr.rely l7 (by rw[g8]) (λi j H _=>g9 j (p.wr.lt _ _ H) (p.own _ _ H)) (λi j _ h=>absurd h (x i));have hE:=h8 s v hv I;rw[m8] at hE;refine EL.resume hE m3 m6 p.le z.top z.rest (.bool v) (q9G e7 d) p.ln z.gl (λi j H=>b6 j (p.own i j H)) m9 ⟨λj hj hn=>?_,g8.trans (p.kp.os.trans z.kp.os),g7.t (p.kp.output.trans z.kp.output),?_,λi j H hi=>?_,?_⟩ λb hb=>b6 b (c5 b hb)
    ·show w6.heap[j]?=_;rw[g9 j (by omega) (c5 j hj),p.kp.old j (by omega) hn,z.kp.old j hj λi hi=>hn i (hi.mono p.le)]
    ·show W.heap.size<=w6.heap.size;omega
    ·rcases p.fr i j H with h | h
     ·exact z.kp.inn i j h hi
     ·omega
    ·show W.heap.size<=w6.heap.size;omega
 have:=c3 w.drawn;exact this
end
end
section
open Go Go.RowKit Go.Co Go.Sim
def q6B(b:List Par)(a:List Int):Nat:=(yZ b a).length
def q0r(b:List Par)(a:List Int)(i d:Nat):Int:=((yZ b a)[i]?.getD λ_=>0) d
def qeg(c:List Par)(k:∀p∈c,0<=p.mn/\p.mn<=p.mx/\p.mx<=1000)(b:List Int):∀g∈yZ c b,∀d,0<=g d/\g d<=1000:=by
 have e:∀(b:List Int) (L:List (Nat->Int)),(∀g∈L,∀d,0<=g d/\g d<=1000)->∀g∈b.foldl (vp c) L,∀d,0<=g d/\g d<=1000:=by
  intro b;induction b with
  | nil=>exact λL h=>h
  | cons x b j=>
   intro L h;refine j _ λg a d=>?_;unfold vp at a;split at a
   ·rename_i p f
    have⟨q,o,n⟩:=k p (qi9 f);unfold kq at a;rw[qmE] at a;obtain⟨l,i,a⟩:=a;unfold vj at a;rw[qlp] at a;obtain⟨m,hm,rfl⟩:=a;rw[qjC] at hm;unfold kOf at hm;unfold YU;split
    ·omega
    ·exact h l i d
   ·exact h g a d
 exact e b _ λg a d=>by simp at a;subst a;simp
def qeh(a:List Par)(c:∀p∈a,0<=p.mn/\p.mn<=p.mx/\p.mx<=1000)(b:List Int)(i d:Nat):0<=q0r a b i d/\q0r a b i d<=1000:=by
 unfold q0r;cases h:(yZ a b)[i]? with
 | none=>simp
 | some g=>exact qeg a c b g (qi9 h) d
def qg1{y f:Nat}{t w:qhu}{b:List Par}{o:Int}{a:List Int}{l:qhr}(N:jf y f l t b o)(P:qg y f l w a)(z:f<=l.heap.size)(Q:b.length<=5)(G:∀x∈a,0<=x/\x<b.length)(I:∀p∈b,0<=p.mn/\p.mn<=p.mx/\p.mx<=1000)(F:∀j,j<=a.length->(yZ b (a.take j)).length<=900000)(T:Nat->qk5->Nat) :qis Ya 137 #[t,w] (l.tp T) λe u=>∃v,e=.returned v/\Cas (q6B b a) (q0r b a) l v u:=by
 refine(q9u y f t w b o a (l.tp T) N P z Q G I F).mono ?_;rintro e u ⟨v,rfl,D,L,f⟩;have O:q6B b a<=900000:=by have:=F a.length (qhv _);rwa [qjs] at this
 refine⟨v,rfl,?_,?_,?_⟩
 ·rcases L.2 with⟨rfl,R⟩ | ⟨g,C,B,rfl,U,r,_,_,_,k⟩
  ·have A:q6B b a=0:=R;exact⟨none,0,by rw[A],by omega,λh=>by omega⟩
  ·refine⟨_,C,rfl,by omega,λ_=>⟨g,0,B,101,_,rfl,qiu _,(qhs.1 r).1,r,λi f d M=>?_⟩⟩;have q:i<(yZ b a).length:=f;have s:=q1x (yZ b a) i _ (qhz q) d M;rw[<- k,qn2] at s;split at s
   ·rw[qi6];unfold q0r;rw[qhz q];simpa using s
   ·cases s
 ·intro S n c e;subst e;exact f S.block rfl
 ·have H:u.tape=T:=D.tape;rw[H];exact D
end
section
open Go Go.RowKit Go.Co Go.Sim Go.Conc Go.ConcN
def qb9{a:List Par}{f:Par->Int}(b:∀p∈a,0<=f p/\f p<=1000)(k i:Nat):0<=pre f a k i/\pre f a k i<=1000:=by
 unfold pre;split
 ·cases h:a[i]? with
  | none=>simp
  | some p=>exact b p (qi9 h)
 ·simp
def Js(a:List Par)(l b:List Int):Prop:=∃i,i<q6B a b/\(qx a (ovr (q0r a b i) (pre Par.mn a a.length) b b.length) l && !qx a (ovr (q0r a b i) (pre Par.mx a a.length) b b.length) l)=true
section
variable[J:JunkSet]{f:qj8}{Post:qhu->qhr->Prop}{W:qhr}
def EL.doubt(D:Two Ya qi2)(A:JunkSet.okf 137)(B:∀i,¬ JunkSet.jk i)(C:Ya.inits.idxOf? f=none)(F:∃g,Ya.funcs[f]?=some g/\Tryz.prog.funcs[f]?=some g){b:qhG}{a:Act}{k:List qlG}{I:List qhG}{d:qhr}(hb:Bot f I)(X:Ya.funcs[b.fn]?=Tryz.prog.funcs[b.fn]?){e:Array qjn}{i:Nat}{n:List Nat}{o:qjn}(Y:e[i]?=some o)(U:qip o (qjt e a.tmps)=true){ybq pbq vbq:Option qiG}{ps:List Par}{l wl:List Int}{yc pc vc:Nat}{lim:Int}(w:∀T,(qkA a.eval o).run Ya (d.tp T)=.ok (.enter 85 #[.agg #[.slice ybq ps.length yc,lim],.slice pbq l.length pc,.slice vbq wl.length vc]) (d.tp T))(q:qr 0 d.heap.size d (.slice ybq ps.length yc) ps)(O:qU d (.slice ybq ps.length yc))(s:qg 0 d.heap.size d (.slice pbq l.length pc) l)(Q:qU d (.slice pbq l.length pc))(r:qg 0 d.heap.size d (.slice vbq wl.length vc) wl)(P:qU d (.slice vbq wl.length vc))(h0:qX d 0)(L:ps.length<=5)(z:∀p∈ps,0<=p.mn/\p.mn<=p.mx/\p.mx<=1000)(Z:∀y∈l,0<=y/\y<ps.length)(R:l.length<=1000)(t:∀y∈wl,0<=y/\y<ps.length)(M:∀j,j<=wl.length->(yZ ps (wl.take j)).length<=900000)(x:∀u (v:Bool),(v=true↔Js ps l wl)->(d.tp u.tape).gb u none->EL Ya qi2 f Post W (G ((b.at a (.inRegion e (i::n)::k)).finish (.bool v)) I) u) :EL Ya qi2 f Post W (G (b.at a (.inRegion e (i::n)::k)) I) d:=by
 have H:q6B ps wl<=900000:=by have:=M wl.length (qhv _);rwa [qjs] at this
 exact EL.doubtful D A B C F hb X Y U (N:=q6B ps wl) (c:=q0r ps wl) w q O s Q r P h0 L (qb9 (λp h=>by have:=z p h;omega) _) (qb9 (λp h=>by have:=z p h;omega) _) (qeh ps z wl) Z R (λy S=>by have:=t y S;omega) H
  (qg1 ⟨_,rfl,q⟩ r (qhv _) L t z M) λu v V hg=>x u v V hg
end
end
section
open Go Go.RowKit Go.Co
section
variable{lo hi O:Nat}{w w':qhr}{v:qhu}
def kL{i b:Array qhu}{e d:qi4}{f g:Nat × Nat}{B:Nat}(h:w.heap[B]?=some (.cells i e f))(c:w.heap[O]?=some (.cells b d g))(a:e≠d):B≠O:=by
 rintro rfl;rw[h] at c;cases c;exact a rfl
def qg.kept_ne{l:List Int}(h:qg lo hi w v l)(i:w.gb w' (some O)){b:Array qhu}{n:Nat × Nat}(j:w.heap[O]?=some (.cells b 29 n)):qg lo hi w' v l:=by
 obtain⟨base,c,rfl,g,f⟩:=h;refine⟨base,c,rfl,g,λa=>?_⟩;have⟨B,o,t,k,s,r,q,d,p⟩:=f a;exact⟨B,o,t,k,s,r,q,blk i (λe=>kL d j (by decide) (by cases e;rfl)) d,p⟩
def qr.kept_ne{l:List Par}(h:qr lo hi w v l)(i:w.gb w' (some O)){b:Array qhu}{n:Nat × Nat}(j:w.heap[O]?=some (.cells b 29 n)):qr lo hi w' v l:=by
 obtain⟨base,c,rfl,g,f⟩:=h;refine⟨base,c,rfl,g,λa=>?_⟩;have⟨B,o,t,k,s,r,q,d,p⟩:=f a;exact⟨B,o,t,k,s,r,q,blk i (λe=>kL d j (by decide) (by cases e;rfl)) d,p⟩
def qX.kept_ne{B:Nat}(h:qX w B)(i:w.gb w' (some O)){a:Option qiG}{n c:Nat}{j:Nat × Nat}(b:w.heap[O]?=some (.cells #[.slice a n c] 29 j)):qX w' B:=by
 obtain⟨l,e,f,g,d⟩:=h;refine⟨l,e,f,blk i (λe=>?_) g,d⟩;cases e;rw[g] at b;cases b;have⟨k,m,e⟩:=d 0 _ rfl;cases e
def qU.kept_ne(h:qU w v)(b:w.gb w' (some O)){a:Option qiG}{n c:Nat}{f:Nat × Nat}(d:w.heap[O]?=some (.cells #[.slice a n c] 29 f)):qU w' v:=λg m k e=>qX.kept_ne (h g m k e) b d
end
end
section
open Go Go.RowKit Go.Co Go.Sim Go.Conc Go.ConcN
structure Q2(w:qhr)(O Y L:Nat)(yb:Option qiG)(ps:List Par)(yc:Nat)(lim:Int)(pb:Option qiG)(l:List Int)(pc:Nat):Prop where
 out:∃b n c,w.heap[O]?=some (.cells #[.slice b n c] 29 (0,0))
 ya:w.heap[Y]?=some (.cells #[.slice yb ps.length yc,lim] 91 (0,0))
 pa:w.heap[L]?=some (.cells #[.slice pb l.length pc] 29 (0,0))
 ne:O≠L
 pars:qr 0 w.heap.size w (.slice yb ps.length yc) ps
 yi:qU w (.slice yb ps.length yc)
 ints:qg 0 w.heap.size w (.slice pb l.length pc) l
 pi:qU w (.slice pb l.length pc)
 h0:qX w 0
def Q2.kept{w w':qhr}{O Y L:Nat}{q:Option qiG}{r:List Par}{p:Nat}{i:Int}{t:Option qiG}{l:List Int}{s:Nat}(h:Q2 w O Y L q r p i t l s)(a:w.gb w' (some O))(u:∃b n c,w'.heap[O]?=some (.cells #[.slice b n c] 29 (0,0))):Q2 w' O Y L q r p i t l s:=by
 have⟨b,n,c,d⟩:=h.out;refine⟨u,blk a (λe=>kL h.ya d (by decide) (by cases e;rfl)) h.ya,blk a (λe=>h.ne (by cases e;rfl)) h.pa,h.ne,(h.pars.kept_ne a d).mono (qhv _) a.size,h.yi.kept_ne a d,(h.ints.kept_ne a d).mono (qhv _) a.size,h.pi.kept_ne a d,?_⟩;have⟨x,e,g,o,j⟩:=h.h0;refine⟨x,e,g,blk a (λe=>?_) o,j⟩;cases e;rw[d] at o;cases o;have⟨k,m,e⟩:=j 0 _ rfl;cases e
def Q2.tp{w:qhr}{O Y L:Nat}{c:Option qiG}{d:List Par}{b:Nat}{a:Int}{g:Option qiG}{l:List Int}{e:Nat}(h:Q2 w O Y L c d b a g l e)(T:Nat->qk5->Nat):Q2 (w.tp T) O Y L c d b a g l e :=
 ⟨h.out,h.ya,h.pa,h.ne,h.pars,h.yi,h.ints,h.pi,h.h0⟩
def Tp.x85:Ya.funcs[85]?=some { qly with body:=some (.exit 0) }:=by kernel_rfl
section
variable[J:JunkSet]{f:qj8}{Post:qhu->qhr->Prop}{W:qhr}
def EC.of_body1(D:Two Ya qi2){d:qj8}{fn:Func}{c0:qkh}{b:Array qhu}{j:qhr}{R:qhu->qhr->Prop}{t:Nat}(n:Ya.funcs[d]?=some fn)(l:Tryz.prog.funcs[d]?=some fn)(i:fn.body=some c0)(k:fn.results=#[.tmp t])(h:∀e,Bot f e->(∀g a u,R (g.getD t qhx) u->EL Ya qi2 f Post W (G { (qij d).at ⟨g,[]⟩ a with mode:=.returning } e) u) ->EL Ya qi2 f Post W (G ((qij d).at ⟨b++qiE (fn.ntmps - b.size) qhx,[]⟩ [.code c0]) e) j):EC Ya qi2 f Post W d b j R :=
 EC.of_body D n l i λe o c=>h e o λg a u p=>c ⟨g,[]⟩ a u _ rfl (λT=>results_tmp k _ _ _) p
structure qcD(ps:List Par)(l wl:List Int):Prop where
 n5:ps.length<=5
 hp:∀p∈ps,0<=p.mn/\p.mn<=p.mx/\p.mx<=1000
 hl:∀y∈l,0<=y/\y<ps.length
 ll:l.length<=1000
 hwl:∀y∈wl,0<=y/\y<ps.length
 wl1:wl.length<=1000
 hN:∀j,j<=wl.length->(yZ ps (wl.take j)).length<=900000
def el83(D:Two Ya qi2)(b7:JunkSet.okf 137)(b8:∀i,¬ JunkSet.jk i)(b9:Ya.inits.idxOf? f=none)(c8:∃g,Ya.funcs[f]?=some g/\Tryz.prog.funcs[f]?=some g){wq:qhr}{O Y L:Nat}{yb:Option qiG}{ps:List Par}{yc:Nat}{lim:Int}{pb:Option qiG}{l:List Int}{pc:Nat}(h:Q2 wq O Y L yb ps yc lim pb l pc){B:Option qiG}{vc:Nat}{wl:List Int}(hw:qg 0 wq.heap.size wq (.slice B wl.length vc) wl)(a9:qU wq (.slice B wl.length vc))(C:wl≠[]\/(qjc B wl.length vc)=.slice none 0 0)(F:qcD ps l wl) :EC Ya qi2 f Post W 83 #[.slice B wl.length vc,.pointer (some O),.pointer (some Y),.pointer (some L)] wq λv u=>∃d:Bool,v=.bool (!d)/\(d=true↔Js ps l wl)/\(wq.tp u.tape).gb u (some O)/\∃b n c,u.heap[O]?=some (.cells #[.slice b n c] 29 (0,0))/\qg 0 u.heap.size u (.slice b n c) wl:=by
 refine EC.of_body1 D (fn:=Tryz.f83) (c0:=Tryz.f83.body.getD .skip) (t:=5) Tp.x83 Tryz.func83 (by kernel_rfl) rfl λcs q r=>?_;have HR:=qhp r;clear r;simp only[Tryz.f83,qhC];have p:Ya.funcs[(qij 83).fn]?=Tryz.prog.funcs[(qij 83).fn]?:=zd 83 (by decide);walk_nrm;refine EL.sp D q p λT=>?_;go_wp2;refine EL.tape (wq:=wq) ?_ T;refine EL.sp D q p λT=>?_;have⟨ob,on,oc,S⟩:=h.out;have HO:=qhp S;have P:(wq.tp T).frozen? ⟨O,0,none⟩=false:=qn S;have Q:(wq.tp T).cell? O=some (.slice ob on oc):=q8 S rfl;have M:O<(wq.tp T).heap.size:=(qhs.1 S).1;clear S;go_wp2;refine(Jv 0 wq.heap.size _ wl (wq.tp T) hw (qhv _) C F.wl1).mono ?_;rintro e A ⟨v',rfl,j,V⟩;have d5:=j.cl Q;have N:=(j.frozen_far _ M (by simp)).t P;have s:=(bk j HO);have⟨Z,H⟩:=qE j V;have b6:=j.size;have X:=qhp s;clear j V s;obtain⟨z,y,rfl,-,-⟩:=H.out.cell;go_wp2;have o:(wq.tp T).gb (A.setCell O (.slice z wl.length y)) (some O):=(Z.but (some O)).t (qh A O 0 _);have G:(A.setCell O (.slice z wl.length y)).heap[O]?=some (.cells #[.slice z wl.length y] 29 (0,0)):=by rw[qi X];rfl
 have U:qg 0 (A.setCell O (.slice z wl.length y)).heap.size (A.setCell O (.slice z wl.length y)) (.slice z wl.length y) wl :=
  (H.kept (qh A O 0 _) (λR e=>by cases e;exact .inl M)).mono (qiu _) (by simp)
 generalize A.setCell O (.slice z wl.length y)=u at o G U ⊢;clear d5 N P Q b6 Z H X;have x:Q2 u O Y L yb ps yc lim pb l pc:=Q2.kept (h.tp T) o ⟨_,_,_,G⟩;have b0:qg 0 u.heap.size u (.slice B wl.length vc) wl:=(qg.kept_ne (w:=wq.tp T) hw o HO).mono (qhv _) o.size;have I:qU u (.slice B wl.length vc):=qU.kept_ne (w:=wq.tp T) a9 o HO;show EL _ _ _ _ _ _ _;refine EL.seq D q p ?_;refine EL.region D q p ?_;simp only[qim,qhE,qi1,qib,qi6,qil,qj2];refine EL.list D q p [0,1,2] [_,_,_] (rest:=[3,4,5]) rfl λT3=>?_;have c1:(u.tp T3).cell? Y=some (.slice yb ps.length yc):=q8 x.ya rfl;have c2:(u.tp T3).cell? ⟨Y,1,none⟩=some (.int .i64 lim):=q8 x.ya rfl;have c3:(u.tp T3).cell? L=some (.slice pb l.length pc):=q8 x.pa rfl;go_wp2;refine EL.tape (wq:=u) ?_ T3;refine EL.doubt D b7 b8 b9 c8 q p (ybq:=yb) (pbq:=pb) (vbq:=B) (ps:=ps) (l:=l) (wl:=wl) (yc:=yc) (pc:=pc) (vc:=vc) (lim:=lim) rfl rfl (λT4=>by rw[qne (f:=85) rfl Tp.x85 (by kernel_rfl) rfl];walk_nrm) x.pars x.yi x.ints x.pi b0 I x.h0 F.n5 F.hp F.hl F.ll F.hwl F.hN λu2 d c9 a=>?_;rw[qkj];walk_nrm;refine EL.list D q p [4,5] [_,_] (rest:=[]) rfl λT5=>?_;go_wp2;refine EL.tape (wq:=u2) ?_ T5;refine EL.region_end D q p ?_;refine EL.retS D q p ?_;refine HR _ _ u2 ⟨d,rfl,c9,?_,z,wl.length,y,?_,?_⟩
 ·exact⟨a.os.trans o.os,rfl,a.output.trans o.output,qhB o.size a.size,λk hk C=>(a.block k (qi0 hk o.size) (by simp)).t (o.block k hk C)⟩
 ·exact bk a G
 ·exact(qg.kept (w:=u.tp u2.tape) U a (by simp)).mono (qhv _) a.size
end
end
section
open Go Go.RowKit Go.Co Go.Sim Go.Conc Go.ConcN
def qey(x:Array qhu)(h:x.size=41):∃Y X V U T S R Q P O N M L I H G F D C B A z y w v u s r q p o n l k j i g d c b a,x=#[Y,X,V,U,T,S,R,Q,P,O,N,M,L,I,H,G,F,D,C,B,A,z,y,w,v,u,s,r,q,p,o,n,l,k,j,i,g,d,c,b,a]:=by
 have e:=QQ x;rw[h] at e;exact⟨_,_,_,_,_,_,_,_,_,_,_,_,_,_,_,_,_,_,_,_,_,_,_,_,_,_,_,_,_,_,_,_,_,_,_,_,_,_,_,_,_,e.t rfl⟩
structure Yi(w:qhr)(E Lv Gp O Y Lp:Nat)(lb:Option qiG)(lc:Nat)(ws:List Int):Prop where
 en:w.heap[E]?=some (.cells #[.func (.func 83) #[] #[.pointer (some O),.pointer (some Y),.pointer (some Lp)]] 51 (0,0))
 ls:w.heap[Lv]?=some (.cells #[.slice lb ws.length lc] 29 (0,0))
 wsI:qg 0 w.heap.size w (.slice lb ws.length lc) ws
 gr:w.heap[Gp]?=some (.cells #[.func (.func 136) #[] #[.pointer (some E),.pointer (some Lv),.pointer (some Gp)]] 151 (0,0))
 neL:O≠Lv
def jl(p:List Int->Bool):List (List Int)->List Int->Bool × List Int
 | [],o=>(false,o)
 | c::a,_=>if p c then(true,c) else jl p a c
def q0y(p:List Int->Bool):∀(a b:List (List Int)) (o:List Int),jl p (a++b) o=if(jl p a o).1 then jl p a o else jl p b (jl p a o).2:=by
 intro a;induction a with
 | nil=>intro b o;simp[jl]
 | cons c a d=>
  intro b o;simp only[qi7,jl];by_cases h:p c=true
  ·simp[h]
  ·simp only[if_neg h];exact d b c
def q4q(w:qhr)(a b:Nat)(e:qi4):a<=qm1 w a b e:=by
 unfold qm1;simp only[Question.cut];omega
def q9D(z:Array qhu)(a:zD z.toList)(b:0<z.size)(n:Nat):zD (qki z n).toList:=q39 a b n
def q4a{w:qhr}{l:List Int}{zs:Array qhu}(g:zD zs.toList)(k:l.length<=1000000)(a:Nat) :qg w.heap.size (w.drew.alloc (.cells ((l.map (qid .i64)).toArray++zs) 3)).heap.size (w.drew.alloc (.cells ((l.map (qid .i64)).toArray++zs) 3)) (.slice (some w.heap.size) l.length a) l /\qU (w.drew.alloc (.cells ((l.map (qid .i64)).toArray++zs) 3)) (.slice (some w.heap.size) l.length a):=by
 have b:(w.drew.alloc (.cells ((l.map (qid .i64)).toArray++zs) 3)).heap[w.heap.size]?=some (.cells ((l.map (qid .i64)).toArray++zs) 3 (0,0)):=qhA w.drew _;refine⟨⟨_,a,rfl,by omega,λ_=>⟨w.heap.size,0,_,_,rfl,qhv _,?_,b,λi d=>?_⟩⟩,λo n c e=>?_⟩
 ·exact(qhs.1 b).1
 ·rw[qi6,qnt (by simpa using d)];simp[qhz d]
 ·cases e;refine⟨_,_,_,b,λi v j=>?_⟩;have hm:=qjB j;rcases ql9.1 hm with h | h
  ·simp only[qlb,qlp] at h;obtain⟨x,_,rfl⟩:=h;exact⟨_,_,rfl⟩
  ·exact g v (by simpa using h)
def qb5{w:qhr}{A:Option qiG}{L B:Nat}{a:List Int}{x:Int}(z:qi4)(H:qg 0 w.heap.size w (.slice A a.length L) a)(M:w.cell? B=some (.int .i64 x))(R:a.length<=1000) :∃c p,(ql7 #[29,29] z #[.slice A a.length a.length,.slice (some B) 1 1]).run Ya w=.ok (.slice (some w.heap.size) (a.length+1) c) p/\a.length+1<=c/\w.gb p none /\qg w.heap.size p.heap.size p (.slice (some w.heap.size) (a.length+1) c) (a++[x])/\qU p (.slice (some w.heap.size) (a.length+1) c):=by
 have⟨F,y,u,h,s⟩:=qjx Tp.info3p;have g:∀j v,([qid .i64 x]:List qhu)[j]?=some v->w.cell? ((⟨B,0,none⟩:qiG).add j)=some v:=λj v k=>by
  have:j=0:=by have:=(qi3.1 k).1;simp at this;omega
  subst this;simp at k;subst k;simpa[Addr.add] using M
 have r:zD (qid .i64 0).cells.toList:=λv G=>by simp[Value.cells] at G;exact⟨_,_,G⟩
 have q:(a++[x]).length=a.length+1:=by simp
 cases A with
 | none=>
  have Q:a=[]:=by
   refine qj6 λC=>?_;obtain⟨base,c,e,_,n⟩:=H;cases e;have⟨B,o,T,S,D,_⟩:=n C;cases D
  subst Q;have n:=run_append_nil (P:=Ya) w 29 z 3 F _ Tp.und29' y u ⟨B,0,none⟩ 1 1 [qid .i64 x] (by rw[h];rfl) g (by omega) (by omega) (by rw[s];omega);have:=q4a (w:=w) (l:=[x]) (zs:=qki (qid .i64 0).cells (qm1 w 1 0 3 - 1)) (q9D _ r (by decide) _) (by simp) (qm1 w 1 0 3);exact⟨_,_,n,q4q _ _ _ _,(qe w none).t (qhq _ _ none),this.1,this.2⟩
 | some b=>
  have i:∀j v,(a.map (qid .i64))[j]?=some v->w.cell? (b.add j)=some v:=λj v k=>by
   have d:j<a.length:=by simpa using(qi3.1 k).1
   have⟨base,c,e,_,N⟩:=H.cell;cases e;have⟨U,o,D,_,_,_,O⟩:=N (by intro e;rw[e] at d;simp at d);cases D;have I:=O j d;rw[qjE,qhz d] at k;rw[qhz d] at I;cases k;exact kf I
  have n:=run_append_grow (P:=Ya) w 29 z 3 F _ Tp.und29' y u b a.length a.length (a.map (qid .i64)) (by rw[h];simp) i ⟨B,0,none⟩ 1 1 [qid .i64 x] (by rw[h];rfl) g (by omega) (by omega) (growslice_fits (by omega) (by rw[s];omega));have:=q4a (w:=w) (l:=a++[x]) (zs:=qki (qid .i64 0).cells (qm1 w (a.length+1) a.length 3 - (a.length+1))) (q9D _ r (by decide) _) (by simp;omega) (qm1 w (a.length+1) a.length 3);have e:(a.map (qid .i64)).toArray++[qid .i64 x].toArray=((a++[x]).map (qid .i64)).toArray:=by simp
  rw[e] at n;rw[q] at this;exact⟨_,_,n,q4q _ _ _ _,(qe w none).t (qhq _ _ none),this.1,this.2⟩
section
variable[J:JunkSet]{f:qj8}{Post:qhu->qhr->Prop}{W:qhr}
noncomputable def sub:List Nat->qkh->qkh
 | 0::l,.seq a _=>sub l a
 | 1::l,.seq _ b=>sub l b
 | 0::l,.cond _ a _=>sub l a
 | 1::l,.cond _ _ b=>sub l b
 | 0::l,.block _ c=>sub l c
 | 0::l,.loop c=>sub l c
 | _,c=>c
def q8a{d:Array qjn}{o:qjn}{a:Act}{w:qhr}{K:Act->qhr->Prop}{Q:Exit->Act->qhr->Prop}{E:Prop}(g:o.guard=none)(s x:qiy)(e:o.op=.call { callee:=.builtin .append,args:=#[s,x],argTypes:=#[29,29] }){nb:Option qiG}{nc B:Nat}{now:List Int}{y:Int}(hs:a.eval s=.slice nb now.length now.length)(hx:a.eval x=.slice (some B) 1 1)(hN:qg 0 w.heap.size w (.slice nb now.length nc) now)(hy:w.cell? B=some (.int .i64 y))(hl:now.length<=1000)(h:∀b c,now.length+1<=b->w.gb c none->qg w.heap.size c.heap.size c (.slice (some w.heap.size) (now.length+1) b) (now++[y])->qU c (.slice (some w.heap.size) (now.length+1) b)->K (a.put o.dst (.slice (some w.heap.size) (now.length+1) b)) c) :if qip o (qjt d a.tmps)=true then Oper.wp Ya o a w K Q else E:=by
 rw[if_pos (by simp[qip,g])];have⟨b,c,i,n,l,k,j⟩:=qb5 o.type hN hy hl;unfold Oper.wp qkA;simp only[e,resolve,invoke,builtin,qjo,qmo,qjl,qmc,qll,qmq,hs,hx,i];exact h b c n l k j
noncomputable def q66:qkh->Array qjn
 | .region _ ops _=>ops
 | _=>#[]
def reg6(D:Two Ya qi2){cs:List qhG}{k:List qlG}(S:Bot f cs){u:qhr}{E Lv Gp O Y Lp LB lo:Nat}{nb:Option qiG}{lc nc i m:Nat}{ws now:List Int}{x:Int}{y1 y3 y6 y7 y8 y9 y11 y12 y13 y14 y15 y16 y17 y18 y19 y20 y21 y22 y23 y24 y25 y26 y27 y28 y29 y30 y31 y32 y33 y34 y35 y36 y37 y38 y39 y40:qhu}(A:Yi u E Lv Gp O Y Lp (some ⟨LB,lo,none⟩) lc ws)(z:qg 0 u.heap.size u (.slice nb now.length nc) now)(Q:now.length<=nc)(hi:i<ws.length)(r:u.cell? ⟨LB,lo+i,none⟩=some (.int .i64 x))(hm:m<=1000)(R:now.length<=1000)(hw:ws.length<=1000)(b:∀g a d,now.length+1<=a->(u.tp d.tape).gb d none->qg 0 d.heap.size d (.slice (some ⟨g,0,none⟩) (now.length+1) a) (now++[x])->qU d (.slice (some ⟨g,0,none⟩) (now.length+1) a) ->EL Ya qi2 f Post W (G ((qij 136).at ⟨#[(.slice nb now.length nc),y1,(.int .i64 (m+1:Nat)),y3,(.pointer (some Lv)),(.pointer (some Gp)),y6,y7,y8,y9,(.int .i64 i),y11,y12,y13,y14,y15,y16,y17,y18,y19,y20,y21,y22,(.func (.func 136) #[] #[.pointer (some E),.pointer (some Lv),.pointer (some Gp)]),(.slice nb now.length nc),(.slice nb now.length nc),(.int .i64 now.length),(.slice nb now.length nc),(.int .i64 now.length),(.slice nb now.length now.length),(.slice (some ⟨LB,lo,none⟩) ws.length lc),(.int .i64 i),(.pointer (some ⟨LB,lo+i,none⟩)),(.int .i64 x),(.slice (some u.heap.size) 1 1),(.slice (some ⟨g,0,none⟩) (now.length+1) a),(.int .i64 i),(.int .i64 (i+1:Nat)),(.int .i64 (m+1:Nat)),(.int .i64 m),y40],[]⟩ (.inRegion (q66 (sub [1,1,0,1,0,0,1,0,0,0] (Tryz.f136.body.getD .skip))) [17]::k)) cs) d) :EL Ya qi2 f Post W (G ((qij 136).at ⟨#[(.slice nb now.length nc),y1,(.int .i64 (m+1:Nat)),y3,(.pointer (some Lv)),(.pointer (some Gp)),y6,y7,y8,y9,(.int .i64 i),y11,y12,y13,y14,y15,y16,y17,y18,y19,y20,y21,y22,y23,y24,y25,y26,y27,y28,y29,y30,y31,y32,y33,y34,y35,y36,y37,y38,y39,y40],[]⟩ (.code (sub [1,1,0,1,0,0,1,0,0,0] (Tryz.f136.body.getD .skip))::k)) cs) u:=by
 have P:Ya.funcs[(qij 136).fn]?=Tryz.prog.funcs[(qij 136).fn]?:=zd 136 (by decide);simp only[qoA,qhC,sub,q66] at b ⊢;have Z:=qhp b;clear b;refine EL.region_chain D S P 17 [17] (by kernel_rfl) (by kernel_rfl) (by kernel_rfl) (by kernel_rfl) λT=>?_;generalize y:zR _ 17=ops';simp only[zR,List.take_succ_cons,List.take_zero,qig,qit,qll,qmq,qi7,qii,jX] at y;subst y;have F:(u.tp T).cell? Gp=some (.func (.func 136) #[] #[.pointer (some E),.pointer (some Lv),.pointer (some Gp)]):=q8 A.gr rfl;have C:(u.tp T).cell? Lv=some (.slice (some ⟨LB,lo,none⟩) ws.length lc):=q8 A.ls rfl;have B:(u.tp T).cell? ⟨LB,lo+i,none⟩=some (.int .i64 x):=r;have H:=qhp (show qg 0 (u.tp T).heap.size (u.tp T) (.slice nb now.length nc) now from z);clear z r;have N:IntKind.i64.wrap ((i:Int)+1)=((i+1:Nat):Int):=by simp[qnB];omega
 have M:IntKind.i64.wrap (m:Int)=(m:Int):=by simp only[qnB];omega
 change wpAny _ _ _ _ _ _ _ (World.drew (u.tp T));generalize s:u.tp T=v at F C B H ⊢;have X:=qhp s;clear s;have c:=qhp (show ∀w,v.gb w none->w.cell? Gp=some (.func (.func 136) #[] #[.pointer (some E),.pointer (some Lv),.pointer (some Gp)])/\w.cell? Lv=some (.slice (some ⟨LB,lo,none⟩) ws.length lc)/\w.cell? ⟨LB,lo+i,none⟩=some (.int .i64 x) from λw h=>⟨h.cl F,h.cl C,h.cl B⟩);have q:v.gb v.drew none:=qe v none;have e:=q.t (qhq v.drew (.cells #[x] 3) none);refine qh7 17 (λw=>w.cell? Gp=some (.func (.func 136) #[] #[.pointer (some E),.pointer (some Lv),.pointer (some Gp)])/\w.cell? Lv=some (.slice (some ⟨LB,lo,none⟩) ws.length lc)/\w.cell? ⟨LB,lo+i,none⟩=some (.int .i64 x)) (by kernel_rfl) (c _ q) (λhHeld=>?_);simp only[qhE,qi1,qib,qiA,qi6,qie,qif,qio,qii,qi7];refine tk 0 (h:=tk 1 (h:=tk 2 (h:=tk 3 (h:=tk 4 (h:=tk 5 (h:=tk 6 (h:=tk 7 (h:=tk 8 (h:=tk 9 (h:=tk 10 (h:=tk 13 (h:=tk 14 (h:=tk 15 (h:=tk 16 (h:=?_)))))))))))))));try go_frame
 refine rdc 11 λK j=>?_;go_simp;refine j.out _ _ (c _ e) (λhHeld=>?_);clear j K;try go_frame
 refine rdc 12 λK j=>?_;refine q8a rfl (.tmp 29) (.tmp 34) rfl (nc:=nc) rfl rfl ((H.kept e).mono (qhv _) e.size) (kS _ _ _ _) R (λa I L p o n=>?_);refine j.out _ _ (c _ (e.t p)) (λhHeld=>?_);clear j K;try go_frame
 refine⟨by kernel_rfl,?_⟩;simp only[qig,qit];have l:=qhp (e.t p);rw[show(v.alloc (.cells #[x] 3)).drew.heap.size=v.heap.size+1 from qhH _ _] at o n;have⟨V,U⟩:=qE o n;clear p o n hHeld q e;go_wp2;obtain rfl:=X.out;exact Z _ a I L ⟨l.os,rfl,l.output,l.size,l.block⟩ (V.mono (qiu _) (qhv _)) U
end
end
section
open Go Go.RowKit Go.Co Go.Sim Go.Conc Go.ConcN
def xx{P:qhF}{a:Act}{w:qhr}{o:qjn}{e:qiy}{f:qj8}{b:Func}{args:Array qiy}{d:Array qi4}{jD:Array qhu}(c:o.op=.call { callee:=.value e,args,argTypes:=d })(hv:a.eval e=.func (.func f) #[] jD)(hf:P.funcs[f]?=some b)(hname:(b.name == "runtime.NumGoroutine")=false)(hb:b.body.isNone=false):(qkA a.eval o).run P w=.ok (.enter f (args.map a.eval++jD)) w:=by
 have h:¬ b.name = "runtime.NumGoroutine" := by simpa using hname
 have g:¬ b.body=none:=by cases hx:b.body<;>simp_all
 unfold qkA;simp[c,resolve,Deferred.ofValue,invoke,callFunc,hf,h,g,hv]
def Out(w:qhr)(O:Nat)(o:List Int):Prop:=∃b n c,w.heap[O]?=some (.cells #[.slice b n c] 29 (0,0))/\qg 0 w.heap.size w (.slice b n c) o
noncomputable def ko(a:List Par)(l c:List Int):Bool:=@decide (¬ Js a l c) (Classical.propDecidable _)
def q3r{a:List Par}{l c:List Int}{d:Bool}(h:d=true↔Js a l c):ko a l c=!d:=by
 unfold ko;cases d
 ·simpa using λe=>Bool.false_ne_true (h.2 e)
 ·simpa using h.1 rfl
def Yi.kept{w w':qhr}{E k o O Y l:Nat}{j:Option qiG}{i:Nat}{g:List Int}(h:Yi w E k o O Y l j i g)(a:w.gb w' (some O)){b:Option qiG}{n c:Nat}(d:w.heap[O]?=some (.cells #[.slice b n c] 29 (0,0))):Yi w' E k o O Y l j i g :=
 ⟨blk a (λe=>kL h.en d (by decide) (by cases e;rfl)) h.en,blk a (λe=>h.neL (by cases e;rfl)) h.ls,(h.wsI.kept_ne a d).mono (qhv _) a.size,blk a (λe=>kL h.gr d (by decide) (by cases e;rfl)) h.gr,h.neL⟩
def Yi.tp{w:qhr}{E d g O Y e:Nat}{c:Option qiG}{b:Nat}{a:List Int}(h:Yi w E d g O Y e c b a)(T:Nat->qk5->Nat):Yi (w.tp T) E d g O Y e c b a:=⟨h.en,h.ls,h.wsI,h.gr,h.neL⟩
def gb{w u v:qhr}{r:Option Nat}(h:(w.tp u.tape).gb u r)(k:(u.tp v.tape).gb v r):(w.tp v.tape).gb v r :=
 ⟨k.os.trans h.os,rfl,k.output.trans h.output,qhB h.size k.size,λi b a=>(k.block i (qi0 b h.size) a).t (h.block i b a)⟩
def qfy{w u:qhr}(r:Option Nat)(h:(w.tp u.tape).gb u none):(w.tp u.tape).gb u r:=h.but r
def Out.kept{w u:qhr}{O:Nat}{o:List Int}(h:Out w O o)(a:(w.tp u.tape).gb u none):Out u O o:=by
 obtain⟨b,n,c,e,d⟩:=h;exact⟨b,n,c,bk a e,(qg.kept (w:=w.tp u.tape) d a (by simp)).mono (qhv _) a.size⟩
def Q2.gr{w u:qhr}{O Y L:Nat}{e:Option qiG}{g:List Par}{d:Nat}{a:Int}{j:Option qiG}{l:List Int}{i:Nat}{o:List Int}(h:Q2 w O Y L e g d a j l i)(p:(w.tp u.tape).gb u (some O))(k:Out u O o):Q2 u O Y L e g d a j l i:=by
 obtain⟨b,n,c,q,-⟩:=k;exact(h.tp _).kept p ⟨b,n,c,q⟩
def Yi.gw{w u:qhr}{E g j O Y i:Nat}{e:Option qiG}{d:Nat}{a o:List Int}(h:Yi w E g j O Y i e d a)(l:(w.tp u.tape).gb u (some O))(k:Out w O o):Yi u E g j O Y i e d a:=by
 obtain⟨b,n,c,p,-⟩:=k;exact(h.tp _).kept l (b:=b) (n:=n) (c:=c) p
def qg.gr{w u:qhr}{O:Nat}{v:qhu}{l o:List Int}(h:qg 0 w.heap.size w v l)(a:(w.tp u.tape).gb u (some O))(d:Out w O o):qg 0 u.heap.size u v l:=by
 obtain⟨b,n,c,e,-⟩:=d;exact(qg.kept_ne (w:=w.tp u.tape) h a e).mono (qhv _) a.size
def GrR(g:List Par)(l d:List Int)(O m:Nat)(c:List Int)(a:Nat)(h:List Int)(e:qhr)(v:qhu)(u:qhr):Prop :=
 ∃b o,jl (ko g l) (zS d m c a) h=(b,o)/\v=.bool b/\(e.tp u.tape).gb u (some O)/\Out u O o
def ZX(w:qhr)(r:Option Nat):(w.tp w.tape).gb w r:=⟨rfl,rfl,rfl,qhv _,λ_ _ _=>rfl⟩
section
variable[J:JunkSet]{f:qj8}{Post:qhu->qhr->Prop}{W:qhr}
def qh3(D:Two Ya qi2)(k6:JunkSet.okf 137)(l4:∀i,¬ JunkSet.jk i)(l5:Ya.inits.idxOf? f=none)(l7:∃g,Ya.funcs[f]?=some g/\Tryz.prog.funcs[f]?=some g){M:List Par}{l ws:List Int}{yb pb lb:Option qiG}{yc pc lc E Lv Gp O Y Lp:Nat}{h8:Int}(k0:ws.length<=1000)(c8:∀c:List Int,(∀y∈c,y∈ws)->c.length<=ws.length->qcD M l c) :∀(m:Nat) (now:List Int) (p:Nat) (nb:Option qiG) (nc:Nat) (wq:qhr) (N:List Int),m+now.length<=ws.length->(∀y∈now,y∈ws)->Yi wq E Lv Gp O Y Lp lb lc ws->Q2 wq O Y Lp yb M yc h8 pb l pc->Out wq O N ->qg 0 wq.heap.size wq (.slice nb now.length nc) now->qU wq (.slice nb now.length nc)->now.length<=nc->(now≠[]\/qjc nb now.length nc=.slice none 0 0)->p<=1000 ->EC Ya qi2 f Post W 136 #[.slice nb now.length nc,p,m,.pointer (some E),.pointer (some Lv),.pointer (some Gp)] wq (GrR M l ws O m now p N wq):=by
 have j:Ya.funcs[(qij 136).fn]?=Tryz.prog.funcs[(qij 136).fn]?:=zd 136 (by decide);intro m;induction m with
 | zero=>
  intro now p nb nc wq N b9 w hG hW hO hN d7 b8 b7 l8;refine EC.of_body1 D (fn:=qoA) (c0:=Tryz.f136.body.getD .skip) (t:=9) Tp.x136 Tryz.func136 (by kernel_rfl) rfl λcs a r=>?_;have HR:=qhp r;clear r;simp only[qoA,qhC];walk_nrm;refine EL.sp D a j λT=>?_;go_wp2;refine EL.tape (wq:=wq) ?_ T;refine EL.seq D a j ?_;refine EL.sp D a j λT=>?_;go_wp2;refine EL.tape (wq:=wq) ?_ T;refine EL.cond D a j true (by rfl) ?_;simp only[if_true];refine EL.seq D a j ?_;refine EL.region D a j ?_;simp only[qim,qhE,qi1,qib,qi6,qil,qj2];have l9:=q8 (o:=0) hG.en rfl;refine EL.list D a j [0,1] [_,_] (rest:=[2,3]) rfl λT=>?_;have c1:(wq.tp T).cell? E=some (.func (.func 83) #[] #[.pointer (some O),.pointer (some Y),.pointer (some Lp)]):=l9;go_wp2;refine EL.tape (wq:=wq) ?_ T;refine EL.enter D a j (fk:=83) (args:=#[.slice nb now.length nc,.pointer (some O),.pointer (some Y),.pointer (some Lp)]) rfl rfl (λT=>by rw[xx (f:=83) rfl rfl Tp.x83 (by kernel_rfl) rfl];walk_nrm) (zd 83 (by decide)) ?_;refine el83 D k6 l4 l5 l7 hW hN d7 b7 (c8 now w (by omega)) _ cs a j λv u hR=>?_;obtain⟨d,rfl,Z,H,b,n,c,k8,k7⟩:=hR;rw[qkj];walk_nrm;refine EL.list D a j [3] [_] (rest:=[]) rfl λT=>?_;go_wp2;refine EL.tape (wq:=u) ?_ T;refine EL.region_end D a j ?_;refine EL.retS D a j ?_;refine HR _ _ u ⟨!d,now,?_,rfl,H,b,n,c,k8,k7⟩;simp only[zS,jl,q3r Z];cases d<;>rfl
 | succ m ih=>
  intro now p nb nc wq N b9 w hG hW hO hN d7 b8 b7 l8;refine EC.of_body1 D (fn:=qoA) (c0:=Tryz.f136.body.getD .skip) (t:=9) Tp.x136 Tryz.func136 (by kernel_rfl) rfl λcs a r=>?_;have HR:=qhp r;clear r;have v4:((m:Int)+1 == 0)=false:=by
   rw[beq_eq_false_iff_ne];omega
  have Q:∀(d:Nat) (i:Nat) (z:Array qhu) (u:qhr) (o:List Int),d=ws.length - i->i<=1001->z.size=41->z[0]?=some (.slice nb now.length nc)->z[2]?=some (.int .i64 (m+1:Nat))->z[3]?=some (.pointer (some E))->z[4]?=some (.pointer (some Lv))->z[5]?=some (.pointer (some Gp))->z[10]?=some (.int .i64 i) ->
    (wq.tp u.tape).gb u (some O)->Out u O o->jl (ko M l) (zS ws (m+1) now p) N=jl (ko M l) (zS ws (m+1) now i) o ->
    EL Ya qi2 f Post W (G ((qij 136).at ⟨z,[]⟩ (.code (sub [1,1,0,1,0,0] (Tryz.f136.body.getD .skip))::.inLoop (sub [1,1,0,1,0,0] (Tryz.f136.body.getD .skip))::.inBlock 0::.code (sub [1,1,1] (Tryz.f136.body.getD .skip))::[])) cs) u:=by
   intro d;induction d with
   | zero=>
    intro i z u o Z hi hz h0 h2 h3 h4 h5 C H B F;obtain⟨y0,y1,y2,y3,y4,y5,y6,y7,y8,y9,g8,y11,y12,y13,y14,y15,y16,y17,y18,y19,y20,y21,y22,y23,y24,y25,y26,y27,y28,y29,y30,y31,y32,y33,y34,y35,y36,y37,y38,y39,y40,rfl⟩:=qey z hz;clear hz;simp at h0 h2 h3 h4 h5 C;subst h0 h2 h3 h4 h5 C;have e8:=qhp F;have U:=q8 (o:=0) (hG.gw H hO).ls rfl;have k9:¬ (i:Int)<(ws.length:Int):=by omega
    have v6:ws.length<=i:=by omega
    clear Z;simp only[qoA,qhC,sub];refine EL.seq D a j ?_;refine EL.sp D a j λT=>?_;have c1:(u.tp T).cell? Lv=some (.slice lb ws.length lc):=U;go_wp2;refine EL.tape (wq:=u) ?_ T;refine EL.cond D a j false (by rfl) ?_;simp only[if_false,qiv];refine EL.exit D a j rfl ?_;refine EL.sp D a j λT=>?_;go_wp2;refine EL.tape (wq:=u) ?_ T;refine EL.retS D a j ?_;refine HR _ _ u ⟨false,o,?_,rfl,H,B⟩;rw[F,q1v (by omega)];rfl
   | succ d R=>
    intro i z u o Z hi hz h0 h2 h3 h4 h5 C H B F;obtain⟨y0,y1,y2,y3,y4,y5,y6,y7,y8,y9,g8,y11,y12,y13,y14,y15,y16,y17,y18,y19,y20,y21,y22,y23,y24,y25,y26,y27,y28,y29,y30,y31,y32,y33,y34,y35,y36,y37,y38,y39,y40,rfl⟩:=qey z hz;clear hz;simp at h0 h2 h3 h4 h5 C;subst h0 h2 h3 h4 h5 C;have e8:=qhp F;have I:=hG.gw H hO;have U:=q8 (o:=0) I.ls rfl;have s:i<ws.length:=by omega
    have k9:(i:Int)<(ws.length:Int):=by omega
    have HD:=qhp Z;clear Z;have m6:=hN.gr H hO;have H6:=λk (a1 a3 a6 a7 a8 a9 s7 s6 s5 s4 s3 s2 s1 r9 r8 r7 r6 r5 r4 r3 q7 q6 q5 q0 p9 p8 p7 p6 p5 p4 p3 n9 n8 n7 n6 n4:qhu) LB P m9 x hx c3=>reg6 (f:=f) (Post:=Post) (W:=W) (cs:=cs) (k:=k) (y1:=a1) (y3:=a3) (y6:=a6) (y7:=a7) (y8:=a8) (y9:=a9) (y11:=s7) (y12:=s6) (y13:=s5) (y14:=s4) (y15:=s3) (y16:=s2) (y17:=s1) (y18:=r9) (y19:=r8) (y20:=r7) (y21:=r6) (y22:=r5) (y23:=r4) (y24:=r3) (y25:=q7) (y26:=q6) (y27:=q5) (y28:=q0) (y29:=p9) (y30:=p8) (y31:=p7) (y32:=p6) (y33:=p5) (y34:=p4) (y35:=p3) (y36:=n9) (y37:=n8) (y38:=n7) (y39:=n6) (y40:=n4) D a (u:=u) (E:=E) (Lv:=Lv) (Gp:=Gp) (O:=O) (Y:=Y) (Lp:=Lp) (LB:=LB) (lo:=P) (nb:=nb) (lc:=lc) (nc:=nc) (i:=i) (m:=m) (ws:=ws) (now:=now) (x:=x) m9 m6 b8 s hx (by omega) (by omega) k0 c3;simp only[qoA,qhC,sub,q66] at H6 R ⊢;have t2:=qhp H6;clear H6;have s9:=qhp R;clear R;refine EL.seq D a j ?_;refine EL.sp D a j λT=>?_;have c1:(u.tp T).cell? Lv=some (.slice lb ws.length lc):=U;go_wp2;refine EL.tape (wq:=u) ?_ T;refine EL.cond D a j true (by rfl) ?_;simp only[if_true];refine EL.skip D a j ?_;refine EL.seq D a j ?_;refine EL.block D a j ?_;refine EL.seq D a j ?_;obtain⟨b1,v8,he,-,X⟩:=I.wsI.cell;cases he;obtain⟨LB,P,rfl,-,-,-,n2⟩:=X (by intro e;rw[e] at s;simp at s);have hx:=n2 i s;refine t2 _ _ _ _ _ _ _ _ _ _ _ _ _ _ _ _ _ _ _ _ _ _ _ _ _ _ _ _ _ _ _ _ _ _ _ _ _ LB P I _ hx ?_;intro g e7 u' q1 q2 q3 q4;generalize b6:ws[i]?.getD 0=x at hx q3 q4;have gU:(u.tp u'.tape).gb u' (some O):=qfy _ q2;have d5:=B.kept q2;have m8:=I.gw gU B;have m3:=(hW.gr H B).gr gU d5;have S:∀y∈now++[x],y∈ws:=by
     intro y hy;rcases qku.1 hy with h | h
     ·exact w y h
     ·obtain rfl:=ql4.1 h;rw[<- b6,qhz s];exact qmB s
    have q:(now++[x]).length=now.length+1:=by simp
    have V:=ih (now++[x]) (i+1) (some ⟨g,0,none⟩) e7 u' o (by rw[q];omega) S m8 m3 d5 (by rw[q];exact q3) (by rw[q];exact q4) (by rw[q];exact q1) (.inl (by simp)) (by omega);rw[q] at V;have t1:=qhp V;clear V;refine EL.enter D a j (fk:=136) (args:=#[.slice (some ⟨g,0,none⟩) (now.length+1) e7,.int .i64 (i+1:Nat),m,.pointer (some E),.pointer (some Lv),.pointer (some Gp)]) rfl rfl (λT=>by rw[xx (f:=136) rfl rfl Tp.x136 (by kernel_rfl) rfl];walk_nrm) (zd 136 (by decide)) ?_;refine t1 _ cs a j λv u2 hR=>?_;obtain⟨b,o2,k5,rfl,l6,c9⟩:=hR;rw[qkj];walk_nrm;have A:(wq.tp u2.tape).gb u2 (some O):=gb (gb H gU) l6;have L:jl (ko M l) (zS ws (m+1) now p) N=if b=true then(b,o2) else jl (ko M l) (zS ws (m+1) now (i+1)) o2:=by
     rw[e8,Zp s,b6,q0y,k5]
    refine EL.region_end D a j ?_;cases b with
    | true=>
     refine EL.cond D a j true (by rfl) ?_;simp only[if_true];refine EL.sp D a j λT=>?_;go_wp2;refine EL.tape (wq:=u2) ?_ T;refine EL.retS D a j ?_;exact HR _ _ u2 ⟨true,o2,L,rfl,A,c9⟩
    | false=>
     refine EL.cond D a j false (by rfl) ?_;simp only[if_false,qiv];refine EL.skip D a j ?_;refine EL.inBlock D a j ?_;have v3:IntKind.i64.wrap ((i:Int)+1)=((i+1:Nat):Int):=by simp[qnB];omega
     refine EL.piece D a j λT=>?_;go_wp2;refine EL.tape (wq:=u2) ?_ T;refine EL.inLoop D a j ?_;exact s9 (i+1) _ u2 o2 (by have:=HD.out;omega) (by omega) (by rfl) (by rfl) (by rfl) (by rfl) (by rfl) (by rfl) (by rfl) A c9 L
  simp only[qoA,qhC,sub] at Q ⊢;have s8:=qhp Q;clear Q;walk_nrm;refine EL.sp D a j λT=>?_;go_wp2;refine EL.tape (wq:=wq) ?_ T;refine EL.seq D a j ?_;refine EL.sp D a j λT=>?_;go_wp2;refine EL.tape (wq:=wq) ?_ T;refine EL.cond D a j false (by rfl) ?_;simp only[if_false,qiv];refine EL.skip D a j ?_;refine EL.seq D a j ?_;refine EL.sp D a j λT=>?_;go_wp2;refine EL.tape (wq:=wq) ?_ T;refine EL.block D a j ?_;refine EL.loop D a j ?_;exact s8 (ws.length - p) p _ wq N rfl (by omega) (by rfl) (by rfl) (by rfl) (by rfl) (by rfl) (by rfl) (by rfl) (ZX _ _) hO rfl
end
end
section
open Go Go.RowKit Go.Co Go.Sim Go.Conc Go.ConcN
def qez(x:Array qhu)(h:x.size=21):∃A z y w v u s r q p o n l k j i g d c b a,x=#[A,z,y,w,v,u,s,r,q,p,o,n,l,k,j,i,g,d,c,b,a]:=by
 have e:=QQ x;rw[h] at e;exact⟨_,_,_,_,_,_,_,_,_,_,_,_,_,_,_,_,_,_,_,_,_,e.t rfl⟩
def tpg{w u:qhr}{T:Nat->qk5->Nat}{r:Option Nat}(h:(w.tp T).gb u r):(w.tp u.tape).gb u r:=⟨h.os,rfl,h.output,h.size,h.block⟩
def qdA{w u v:qhr}{O:Nat}(h:(w.tp u.tape).gb u none)(k:(u.tp v.tape).gb v (some O))(b:w.heap.size<=O):(w.tp v.tape).gb v none :=
 ⟨k.os.trans h.os,rfl,k.output.trans h.output,qhB h.size k.size,λi a _=>(k.block i (qi0 a h.size) (by intro e;cases e;exact absurd a (by show ¬ O<w.heap.size;omega))).t (h.block i a (by simp))⟩
def Q2.knone{w u:qhr}{O Y L:Nat}{e:Option qiG}{g:List Par}{d:Nat}{a:Int}{j:Option qiG}{l:List Int}{i:Nat}(h:Q2 w O Y L e g d a j l i)(k:(w.tp u.tape).gb u none):Q2 u O Y L e g d a j l i:=by
 have⟨b,n,c,o⟩:=h.out;exact(h.tp _).kept (k.but _) ⟨b,n,c,bk k o⟩
def qg.knone{w u:qhr}{v:qhu}{l:List Int}(h:qg 0 w.heap.size w v l)(a:(w.tp u.tape).gb u none):qg 0 u.heap.size u v l:=(qg.kept (w:=w.tp u.tape) h a (by simp)).mono (qhv _) a.size
section
variable[J:JunkSet]{f:qj8}{Post:qhu->qhr->Prop}{W:qhr}
def el82(D:Two Ya qi2)(r5:JunkSet.okf 137)(r9:∀i,¬ JunkSet.jk i)(s1:Ya.inits.idxOf? f=none)(s3:∃g,Ya.funcs[f]?=some g/\Tryz.prog.funcs[f]?=some g){ps:List Par}{l q o0:List Int}{yb F:Option qiG}{yc C O Y Lp:Nat}{q2:Int}(r3:q.length<=1000)(k7:∀c:List Int,(∀y∈c,y∈q)->c.length<=q.length->qcD ps l c)(hS:J2 l q){wq:qhr}(hW:Q2 wq O Y Lp yb ps yc q2 F l C)(hO:Out wq O o0) :EC Ya qi2 f Post W 82 #[.slice F l.length C,.func (.func 83) #[] #[.pointer (some O),.pointer (some Y),.pointer (some Lp)]] wq λv u=>∃b o,jl (ko ps l) (jZ q 0) o0=(b,o)/\v=.bool b/\(wq.tp u.tape).gb u (some O)/\Out u O o:=by
 have j:Ya.funcs[(qij 82).fn]?=Tryz.prog.funcs[(qij 82).fn]?:=zd 82 (by decide);refine EC.of_body1 D (fn:=qqh) (c0:=Tryz.f82.body.getD .skip) (t:=4) Tp.x82 Tryz.func82 (by kernel_rfl) rfl λcs p b6=>?_;have HR:=qhp b6;clear b6;have t4:O<wq.heap.size:=by have⟨b,n,c,h1⟩:=hW.out;exact(qhs.1 h1).1
 simp only[qqh,qhC];walk_nrm;refine EL.sp D p j λT=>?_;go_wp2;obtain⟨h,N⟩:∃h,h=(wq.tp T).heap.size:=⟨_,rfl⟩;rw[<- N];have g1:(wq.tp T).gb (((wq.tp T).alloc (.cells #[.slice F l.length C] 29)).alloc (.cells #[.func (.func 83) #[] #[.pointer (some O),.pointer (some Y),.pointer (some Lp)]] 51)) none:=(qhq _ _ none).t (qhq _ _ none);have l1:(((wq.tp T).alloc (.cells #[.slice F l.length C] 29)).alloc (.cells #[.func (.func 83) #[] #[.pointer (some O),.pointer (some Y),.pointer (some Lp)]] 51)).heap[h]?=some (.cells #[.slice F l.length C] 29 (0,0)):=by rw[N];exact qq (qhA (wq.tp T) _)
 have e1:(((wq.tp T).alloc (.cells #[.slice F l.length C] 29)).alloc (.cells #[.func (.func 83) #[] #[.pointer (some O),.pointer (some Y),.pointer (some Lp)]] 51)).heap[h+1]?=some (.cells #[.func (.func 83) #[] #[.pointer (some O),.pointer (some Y),.pointer (some Lp)]] 51 (0,0)):=by
  have:=qhA ((wq.tp T).alloc (.cells #[.slice F l.length C] 29)) (.cells #[.func (.func 83) #[] #[.pointer (some O),.pointer (some Y),.pointer (some Lp)]] 51);rw[qhH] at this;rw[N];exact this
 generalize ((wq.tp T).alloc (.cells #[.slice F l.length C] 29)).alloc (.cells #[.func (.func 83) #[] #[.pointer (some O),.pointer (some Y),.pointer (some Lp)]] 51)=u1 at g1 l1 e1 ⊢;have d8:=tpg g1;have k9:=hW.ints.knone d8;clear g1;have e9:=qhp (show h=wq.heap.size from N);show EL _ _ _ _ _ _ _;clear N;refine EL.sp D p j λT=>?_;have c1:(u1.tp T).cell? h=some (.slice F l.length C):=q8 l1 rfl;have⟨g5,m6,m5⟩:=ze l1 e1 d8;have g6:=qhp (show qg 0 (u1.tp T).heap.size (u1.tp T) (.slice F l.length C) l from k9);have P:h<(u1.tp T).heap.size:=(qhs.1 l1).1;clear l1 e1 d8 k9;obtain⟨A,I⟩:∃A,A=u1.tp T:=⟨_,rfl⟩;rw[<- I] at g6 c1 P ⊢;have HU:=qhp I;clear I;have k5:A.frozen? ⟨h,0,none⟩=false:=by rw[HU];exact qn g5
 go_wp2_with (first
  | (go_at_call 135;refine(Zd _ _ _ _).mono ?_;rintro e w2 ⟨rfl,rfl⟩)
  | (go_at_call 134;refine(hS A.heap.size (.slice F l.length C) _ (by simp) (by rw[kS];rfl) ((g6.alloc _).mono (qhv _) (by simp))).mono ?_;rintro e w2 ⟨v,rfl,d9,b7,H⟩;obtain⟨Z,V,rfl,-,-⟩:=d9.cell;have c2:=(((qhq A (.cells #[.slice F l.length C] 29) none).t H).cl c1);have z2:=(((qhq A (.cells #[.slice F l.length C] 29) none).t H).frozen_far _ P (by simp)).t k5;have m3:=qhp d9;have a9:=qhp ((qhq A (.cells #[.slice F l.length C] 29) none).t H);have t3:=qhp b7;clear d9 b7 H))
 have r:=qh w2 h 0 (.slice Z q.length V);have b9:w2.heap[h]?=some (.cells #[.slice F l.length C] 29 (0,0)):=bk a9 (by rw[HU];exact g5);have l2:(w2.setCell h (.slice Z q.length V)).heap[h]?=some (.cells #[.slice Z q.length V] 29 (0,0)):=by rw[qi b9];rfl
 have s8:=blk (X:=h+1) a9 (by simp) (by rw[HU];exact m6);have e2:=bk r s8;have i2:=(m3.kept r (λR e=>by cases e;left;rw[qhH];omega)).mono (qiu _) r.size;have e7:(wq.tp (w2.setCell h (.slice Z q.length V)).tape).gb (w2.setCell h (.slice Z q.length V)) none:=by
  have a:=a9.out;rw[HU] at a;exact qdA m5 (tpg ((a.but (some h)).t r)) (by rw[e9];exact qhv _)
 show EL _ _ _ _ _ _ _;generalize w2.setCell h (.slice Z q.length V)=u2 at r l2 e2 i2 e7 ⊢;clear b9 m3 a9 t3 c2 z2 r k5 HU g6 c1 P m5 m6 g5;refine EL.sp D p j λT=>?_;go_wp2;obtain⟨s,a7⟩:∃s,s=(u2.tp T).heap.size:=⟨_,rfl⟩;rw[<- a7];have g3:(u2.tp T).gb ((u2.tp T).alloc (.cells #[.nilFunc] 151)) none:=qhq _ _ none;have p3:((u2.tp T).alloc (.cells #[.nilFunc] 151)).heap[s]?=some (.cells #[.nilFunc] 151 (0,0)):=by rw[a7];exact qhA (u2.tp T) _
 have l3:=bk g3 (show(u2.tp T).heap[h]?=_ from l2);have e3:=bk g3 (show(u2.tp T).heap[h+1]?=_ from e2);have e6:=gb e7 (tpg g3);have i3:=i2.knone (tpg g3);have w9:h<s:=by rw[a7];exact(qhs.1 l2).1
 show EL _ _ _ _ _ _ _;generalize (u2.tp T).alloc (.cells #[.nilFunc] 151)=u3 at g3 p3 l3 e3 e6 i3 ⊢;clear g3 l2 e2 i2 a7 e7;refine EL.sp D p j λT=>?_;have c3:(u3.tp T).cell? s=some .nilFunc:=q8 p3 rfl;have z3:(u3.tp T).frozen? ⟨s,0,none⟩=false:=qn p3;have v6:∀(a:qiG) (fn:Fn) (x y:Array qhu) (m:Mode) (w:qhr),(store a (.func fn x y) m).run Ya w=stored Ya w a (.func fn x y) m:=λa fn x y m w=>run_store _ w a _ m rfl;go_wp2;have r:=qh (u3.tp T) s 0 (.func (.func 136) #[] #[.pointer (some (h+1:Nat)),.pointer (some h),.pointer (some s)]);have p4:((u3.tp T).setCell s (.func (.func 136) #[] #[.pointer (some (h+1:Nat)),.pointer (some h),.pointer (some s)])).heap[s]?=some (.cells #[.func (.func 136) #[] #[.pointer (some (h+1:Nat)),.pointer (some h),.pointer (some s)]] 151 (0,0)):=by
  rw[qi (show(u3.tp T).heap[s]?=_ from p3)];rfl
 have l4:=blk r (by simp;omega) (show(u3.tp T).heap[h]?=_ from l3);have e4:=blk r (λe=>kL (show(u3.tp T).heap[h+1]?=_ from e3) (show(u3.tp T).heap[s]?=_ from p3) (by decide) (by cases e;rfl)) (show(u3.tp T).heap[h+1]?=_ from e3);have i4:qg 0 ((u3.tp T).setCell s (.func (.func 136) #[] #[.pointer (some (h+1:Nat)),.pointer (some h),.pointer (some s)])).heap.size ((u3.tp T).setCell s (.func (.func 136) #[] #[.pointer (some (h+1:Nat)),.pointer (some h),.pointer (some s)])) (.slice Z q.length V) q:=by
  obtain⟨base,s9,e,hl,hr⟩:=i3;refine⟨base,s9,e,hl,λr7=>?_⟩;have⟨B,o,cs,fr,e1,e2,e3,e4,e5⟩:=hr r7;exact⟨B,o,cs,fr,e1,e2,qi0 e3 r.size,blk r (λe=>kL (show(u3.tp T).heap[B]?=_ from e4) (show(u3.tp T).heap[s]?=_ from p3) (by decide) (by cases e;rfl)) e4,e5⟩
 have U:=qdA e6 (tpg r) (by have:=e9.out;omega);show EL _ _ _ _ _ _ _;generalize (u3.tp T).setCell s (.func (.func 136) #[] #[.pointer (some (h+1:Nat)),.pointer (some h),.pointer (some s)])=u4 at r p4 l4 e4 i4 U ⊢;clear r c3 z3 p3 l3 e3 e6 i3;have hG:Yi u4 (h+1) h s O Y Lp Z V q:=⟨e4,l4,i4,p4,by have:=e9.out;omega⟩;have s5:=hW.knone U;have k8:=hO.kept U;have m4:=qhp U;clear e4 i4 p4 U;have d6:∀(d:Nat) (k:Nat) (z:Array qhu) (u:qhr) (o:List Int),d=q.length+1 - k->k<=q.length+1->z.size=21->z[5]?=some (.pointer (some s))->z[13]?=some (.int .i64 (q.length+1:Nat))->z[14]?=some (.int .i64 k) ->
   (u4.tp u.tape).gb u (some O)->Out u O o->jl (ko ps l) (jZ q 0) o0=jl (ko ps l) (jZ q k) o ->
   EL Ya qi2 f Post W (G ((qij 82).at ⟨z,[]⟩ (.code (sub [1,1,1,1,0,1,0,0] (Tryz.f82.body.getD .skip))::.inLoop (sub [1,1,1,1,0,1,0,0] (Tryz.f82.body.getD .skip))::.inBlock 0::.code (sub [1,1,1,1,1] (Tryz.f82.body.getD .skip))::[])) cs) u:=by
  intro d;induction d with
  | zero=>
   intro k z u o hd hk hz h5 S Q hg a6 L;obtain⟨y0,y1,y2,y3,y4,y5,y6,y7,y8,y9,q0,p9,p8,p7,p6,p5,n9,n8,n7,n6,n4,rfl⟩:=qez z hz;clear hz;simp at h5 S Q;subst h5 S Q;have e8:=qhp L;have r6:¬ (k:Int)<(q.length:Int)+1:=by omega
   have s2:q.length+1<=k:=by omega
   clear hd L;simp only[qqh,qhC,sub];refine EL.sp D p j λT=>?_;go_wp2;refine EL.tape (wq:=u) ?_ T;refine EL.seq D p j ?_;refine EL.cond D p j false (by rfl) ?_;simp only[if_false,qiv];refine EL.exit D p j rfl ?_;refine EL.sp D p j λT=>?_;go_wp2;refine EL.tape (wq:=u) ?_ T;refine EL.retS D p j ?_;refine HR _ _ u ⟨false,o,?_,rfl,gb (qfy _ m4) hg,a6⟩;rw[e8,q3s s2];rfl
  | succ d d7=>
   intro k z u o hd hk hz h5 S Q hg a6 L;obtain⟨y0,y1,y2,y3,y4,y5,y6,y7,y8,y9,q0,p9,p8,p7,p6,p5,n9,n8,n7,n6,n4,rfl⟩:=qez z hz;clear hz;simp at h5 S Q;subst h5 S Q;have e8:=qhp L;have r6:(k:Int)<(q.length:Int)+1:=by omega
   have r8:k<q.length+1:=by omega
   have HD:=qhp hd;clear hd L;have l5:=hG.gw hg k8;have s4:=s5.gr hg a6;simp only[qqh,qhC,sub] at d7 ⊢;have t2:=qhp d7;clear d7;refine EL.sp D p j λT=>?_;go_wp2;refine EL.tape (wq:=u) ?_ T;refine EL.seq D p j ?_;refine EL.cond D p j true (by rfl) ?_;simp only[if_true];refine EL.skip D p j ?_;refine EL.seq D p j ?_;refine EL.block D p j ?_;refine EL.sp D p j λT=>?_;go_wp2;refine EL.tape (wq:=u) ?_ T;refine EL.seq D p j ?_;refine EL.region D p j ?_;simp only[qim,qhE,qi1,qib,qi6,qil,qj2];refine EL.list D p j [0,1] [_,_] (rest:=[2]) rfl λT=>?_;have c1:(u.tp T).cell? s=some (.func (.func 136) #[] #[.pointer (some (h+1:Nat)),.pointer (some h),.pointer (some s)]):=q8 l5.gr rfl;go_wp2;refine EL.tape (wq:=u) ?_ T;refine EL.enter D p j (fk:=136) (args:=#[.slice none ([]:List Int).length 0,.int .i64 (0:Nat),k,.pointer (some (h+1:Nat)),.pointer (some h),.pointer (some s)]) rfl rfl (λT=>by rw[xx (f:=136) rfl rfl Tp.x136 (by kernel_rfl) rfl];walk_nrm;rfl) (zd 136 (by decide)) ?_;refine qh3 D r5 r9 s1 s3 r3 k7 k [] 0 none 0 u o (by simp;omega) (by simp) l5 s4 a6 (qg.nil _ _ _) (λad n c e=>by cases e) (qhv _) (.inr rfl) (by omega) _ cs p j λv u2 hR=>?_;obtain⟨b,o2,r4,rfl,H,b8⟩:=hR;rw[qkj];walk_nrm;have M:(u4.tp u2.tape).gb u2 (some O):=gb hg H;have b0:jl (ko ps l) (jZ q 0) o0=if b=true then(b,o2) else jl (ko ps l) (jZ q (k+1)) o2:=by
    rw[e8,Ja r8,q0y,r4]
   refine EL.region_end D p j ?_;cases b with
   | true=>
    refine EL.cond D p j true (by rfl) ?_;simp only[if_true];refine EL.sp D p j λT=>?_;go_wp2;refine EL.tape (wq:=u2) ?_ T;refine EL.retS D p j ?_;exact HR _ _ u2 ⟨true,o2,b0,rfl,gb (qfy _ m4) M,b8⟩
   | false=>
    refine EL.cond D p j false (by rfl) ?_;simp only[if_false,qiv];refine EL.skip D p j ?_;refine EL.inBlock D p j ?_;have v5:IntKind.i64.wrap ((k:Int)+1)=((k+1:Nat):Int):=by simp[qnB];omega
    refine EL.piece D p j λT=>?_;go_wp2;refine EL.tape (wq:=u2) ?_ T;refine EL.inLoop D p j ?_;exact t2 (k+1) _ u2 o2 (by have:=HD.out;omega) (by omega) (by rfl) (by rfl) (by rfl) (by rfl) M b8 b0
 simp only[qqh,qhC,sub] at d6;have t1:=qhp d6;clear d6;have v4:IntKind.i64.wrap ((q.length:Int)+1)=((q.length+1:Nat):Int):=by simp[qnB];omega
 refine EL.seq D p j ?_;refine EL.sp D p j λT=>?_;have c4:(u4.tp T).cell? h=some (.slice Z q.length V):=q8 l4 rfl;go_wp2;refine EL.tape (wq:=u4) ?_ T;refine EL.block D p j ?_;refine EL.loop D p j ?_;exact t1 (q.length+1) 0 _ u4 o0 rfl (by omega) (by rfl) (by rfl) (by rfl) (by rfl) (ZX _ _) k8 rfl
end
end
section
open Go Go.RowKit Go.Co Go.Sim Go.Conc Go.ConcN
def qr.knone{w u:qhr}{v:qhu}{l:List Par}(h:qr 0 w.heap.size w v l)(a:(w.tp u.tape).gb u none):qr 0 u.heap.size u v l:=(qr.kept (w:=w.tp u.tape) h a (by simp)).mono (qhv _) a.size
def qU.knone{w u:qhr}{v:qhu}(h:qU w v)(a:(w.tp u.tape).gb u none):qU u v:=λj n c e=>by
 have⟨i,g,f,d,b⟩:=h j n c e;exact⟨i,g,f,bk a d,b⟩
section
variable[J:JunkSet]{f:qj8}{Post:qhu->qhr->Prop}{W:qhr}
def EC.of_body2(D:Two Ya qi2){e:qj8}{fn:Func}{c0:qkh}{b:Array qhu}{j:qhr}{R:qhu->qhr->Prop}{t t':Nat}(n:Ya.funcs[e]?=some fn)(l:Tryz.prog.funcs[e]?=some fn)(i:fn.body=some c0)(k:fn.results=#[.tmp t,.tmp t'])(h:∀g,Bot f g->(∀c a u,R (.tuple #[c.getD t qhx,c.getD t' qhx]) u->EL Ya qi2 f Post W (G { (qij e).at ⟨c,[]⟩ a with mode:=.returning } g) u) ->EL Ya qi2 f Post W (G ((qij e).at ⟨b++qiE (fn.ntmps - b.size) qhx,[]⟩ [.code c0]) g) j):EC Ya qi2 f Post W e b j R :=
 EC.of_body D n l i λg o d=>h g o λc a u p=>d ⟨c,[]⟩ a u _ rfl (λT=>results_tmp2 k _ _ _) p
def el29(D:Two Ya qi2)(a9:JunkSet.okf 137)(b6:∀i,¬ JunkSet.jk i)(b7:Ya.inits.idxOf? f=none)(c8:∃g,Ya.funcs[f]?=some g/\Tryz.prog.funcs[f]?=some g){d:List Par}{l ws:List Int}{j n:Option qiG}{h k:Nat}{a:Int}(a7:ws.length<=1000)(I:∀c:List Int,(∀y∈c,y∈ws)->c.length<=ws.length->qcD d l c)(hS:J2 l ws)(hY:YOk d a)(hP:POk d a l){wq:qhr}(A:qr 0 wq.heap.size wq (.slice j d.length h) d)(yi:qU wq (.slice j d.length h))(B:qg 0 wq.heap.size wq (.slice n l.length k) l)(pi:qU wq (.slice n l.length k))(h0:qX wq 0) :EC Ya qi2 f Post W 29 #[.agg #[.slice j d.length h,a],.slice n l.length k] wq λv u=>∃o s,v=.tuple #[s,.int .i64 0]/\(∃b,jl (ko d l) (jZ ws 0) []=(b,o))/\(wq.tp u.tape).gb u none/\qg 0 u.heap.size u s o:=by
 have p:Ya.funcs[(qij 29).fn]?=Tryz.prog.funcs[(qij 29).fn]?:=zd 29 (by decide);refine EC.of_body2 D (fn:=Tryz.f29) (c0:=Tryz.f29.body.getD .skip) (t:=4) (t':=5) Tp.x29 Tryz.func29 (by kernel_rfl) rfl λcs q C=>?_;have HR:=qhp C;clear C;simp only[Tryz.f29,qhC];walk_nrm;refine EL.sp D q p λT=>?_;go_wp2;obtain⟨X,L⟩:∃X,X=(wq.tp T).heap.size:=⟨_,rfl⟩;rw[<- L];have g1:(wq.tp T).gb (((wq.tp T).alloc (.cells #[.slice j d.length h,a] 24)).alloc (.cells #[.slice n l.length k] 29)) none:=(qhq _ _ none).t (qhq _ _ none);have Q:(((wq.tp T).alloc (.cells #[.slice j d.length h,a] 24)).alloc (.cells #[.slice n l.length k] 29)).heap[X]?=some (.cells #[.slice j d.length h,a] 24 (0,0)):=by rw[L];exact qq (qhA (wq.tp T) _)
 have U:(((wq.tp T).alloc (.cells #[.slice j d.length h,a] 24)).alloc (.cells #[.slice n l.length k] 29)).heap[X+1]?=some (.cells #[.slice n l.length k] 29 (0,0)):=by
  have:=qhA ((wq.tp T).alloc (.cells #[.slice j d.length h,a] 24)) (.cells #[.slice n l.length k] 29);rw[qhH] at this;rw[L];exact this
 show EL _ _ _ _ _ _ _;generalize ((wq.tp T).alloc (.cells #[.slice j d.length h,a] 24)).alloc (.cells #[.slice n l.length k] 29)=u1 at g1 Q U ⊢;have x:=tpg g1;clear g1;have HX:=qhp (show X=wq.heap.size from L);clear L;refine EL.sp D q p λT=>?_;have c1:(u1.tp T).cell? X=some (.slice j d.length h):=q8 Q rfl;have c2:(u1.tp T).cell? ⟨X,1,none⟩=some (.int .i64 a):=q8 Q rfl;have c3:(u1.tp T).cell? (X+1:Nat)=some (.slice n l.length k):=q8 U rfl;have M:=qhp (show qr 0 (u1.tp T).heap.size (u1.tp T) (.slice j d.length h) d from(show qr 0 u1.heap.size u1 (.slice j d.length h) d from A.knone x));have N:=qhp (show qg 0 (u1.tp T).heap.size (u1.tp T) (.slice n l.length k) l from(show qg 0 u1.heap.size u1 (.slice n l.length k) l from B.knone x));go_wp2_with (go_at_call 81;refine(vg 0 _ _ _ d a l _ M N (qhv _) hY hP).mono ?_;rintro e R ⟨rfl,H⟩;have P:=qhp H;clear H);obtain⟨Y,F⟩:∃Y,Y=R.heap.size:=⟨_,rfl⟩;rw[<- F];have w:(u1.tp T).gb (R.alloc (.cells #[.slice j d.length h,a] 91)) none:=P.out.t (qhq _ _ none);have G:=gb x (tpg w);have V:(R.alloc (.cells #[.slice j d.length h,a] 91)).heap[Y]?=some (.cells #[.slice j d.length h,a] 91 (0,0)):=by rw[F];exact qhA _ _
 have S:=bk w (show(u1.tp T).heap[X+1]?=_ from U);show EL _ _ _ _ _ _ _;generalize R.alloc (.cells #[.slice j d.length h,a] 91)=u2 at w G V S ⊢;clear w F P c1 c2 c3 M N Q U x;refine EL.seq D q p ?_;refine EL.sp D q p λT=>?_;go_wp2;refine EL.tape (wq:=u2) ?_ T;refine EL.cond D q p false (by rfl) ?_;simp only[if_false,qiv];refine EL.skip D q p ?_;refine EL.sp D q p λT=>?_;go_wp2;obtain⟨O,z⟩:∃O,O=(u2.tp T).heap.size:=⟨_,rfl⟩;rw[<- z];have w:(u2.tp T).gb ((u2.tp T).alloc (.cells #[.slice none 0 0] 29)) none:=qhq _ _ none;have r:=gb G (tpg w);have o3:((u2.tp T).alloc (.cells #[.slice none 0 0] 29)).heap[O]?=some (.cells #[.slice none 0 0] 29 (0,0)):=by rw[z];exact qhA _ _
 have y3:=bk w (show(u2.tp T).heap[Y]?=_ from V);have Z:=bk w (show(u2.tp T).heap[X+1]?=_ from S);have b0:O≠X+1:=by
  have h1:=(qhs.1 (show(u2.tp T).heap[X+1]?=_ from S)).1;omega
 show EL _ _ _ _ _ _ _;generalize (u2.tp T).alloc (.cells #[.slice none 0 0] 29)=u3 at w r y3 Z o3 ⊢;have e5:=qhp z;clear w V S z;have d6:Out u3 O []:=⟨none,0,0,o3,qg.nil _ _ _⟩;have c9:Q2 u3 O Y (X+1) j d h a n l k:=⟨⟨_,_,_,o3⟩,y3,Z,b0,A.knone r,yi.knone r,B.knone r,pi.knone r,by
  obtain⟨cs,e,g,h0,b8⟩:=h0;exact⟨cs,e,g,bk r h0,b8⟩⟩
 refine EL.seq D q p ?_;refine EL.region D q p ?_;simp only[qim,qhE,qi1,qib,qi6,qil,qj2];refine EL.list D q p [0,1] [_,_] (rest:=[2]) rfl λT=>?_;have c1:(u3.tp T).cell? (X+1:Nat)=some (.slice n l.length k):=q8 Z rfl;go_wp2;refine EL.tape (wq:=u3) ?_ T;refine EL.enter D q p (fk:=82) (args:=#[.slice n l.length k,.func (.func 83) #[] #[.pointer (some O),.pointer (some Y),.pointer (some (X+1:Nat))]]) rfl rfl (λT=>by rw[qne (f:=82) rfl Tp.x82 (by kernel_rfl) rfl];walk_nrm) (zd 82 (by decide)) ?_;refine el82 D a9 b6 b7 c8 a7 I hS c9 d6 _ cs q p λv u hR=>?_;obtain⟨b,o,a8,rfl,b9,d5⟩:=hR;rw[qkj];walk_nrm;refine EL.region_end D q p ?_;refine EL.sp D q p λT=>?_;obtain⟨ob,on,oc,o4,i4⟩:=d5;have c1:(u.tp T).cell? O=some (.slice ob on oc):=q8 o4 rfl;go_wp2;refine EL.tape (wq:=u) ?_ T;refine EL.retS D q p ?_;exact HR _ _ u ⟨o,_,rfl,⟨b,a8⟩,qdA r b9 (by have h1:=G.size;have h2:(wq.tp u2.tape).heap.size=wq.heap.size:=rfl;have h3:=e5.out;rw[h3];exact h1),i4⟩
end
end
section
open Go.RowKit
def q9g(pv:qhu)(U:List Par)(a9:Int)(w:qhr)(hP:qr 0 w.heap.size w pv U)(D:YOk U a9)(H7:∀x:List Int,x.Nodup->(∀y∈x,0<=y/\y<U.length)->POk U a9 x)(H0:∀p∈U,p.tall<=a9)(hN:((jZ (qO U.length) 0).flatMap jB).length<=1000)(SL:List (List Int))(M3:SL=vR U (jZ (qO U.length) 0))(M7:SL.length<=12)(W3:SL≠[])(M1:∀s∈zL SL.length SL,s≠[]/\∀x∈s,0<=x/\x<5)(f:Nat)(q6:f<=100)(R:List (List Int))(hf:qbG f (zL SL.length SL) (zj (qO U.length)) [([],0)]=some (some R)) :qis Ya 63 #[.agg #[pv,a9]] w λe w'=>∃v,e=.returned (.tuple #[v,.int .i64 0])/\w.gb w' none/\RowsIn 0 w'.heap.size w' v R:=by
 have⟨i0,L8,G8,G7,G5⟩:=qjx Tp.info133p;obtain⟨yb,yc,rfl,hyl,-⟩:=hP.cell;have⟨HP,t1,P8,P1,HN,x2,HF,x1⟩:=qbB hP D H7 H0 hN M3 hf M1;clear hP D H7 H0 hN M3 hf M1;go_enter Tp.x63,Tryz.ntmps63;go_wp2;refine wp_scope_straight ?_;go_upto_region 4 with(go_at_call 81;refine(vg 0 w.heap.size _ _ U a9 [] _ (HP.kept (qhq _ _ none)) (qg.nil _ _ _) (by simp) t1 (POk.nil U t1.l1)).mono ?_;rintro e F ⟨rfl,N5⟩;have T:=qhp ((qhq w (.cells #[.slice yb U.length yc,a9] 24) none).t N5);clear N5);obtain⟨Y,C7⟩:∃Y,Y=F.heap.size:=⟨_,rfl⟩;obtain⟨w3,u9⟩:∃w3,w3=F.alloc (.cells #[.slice yb U.length yc,a9] 91):=⟨_,rfl⟩;rw[<- C7,<- u9];have r6:w3.heap[Y]?=some (.cells #[.slice yb U.length yc,a9] 91 (0,0)):=by rw[u9,C7];exact qhA _ _
 have w8:w.gb w3 none:=T.out.t (by rw[u9];exact qhq _ _ none);have⟨D6,t6⟩:=qE r6 w8;have q0:=q8 r6 (o:=0) rfl;have q1:=q8 r6 (o:=1) rfl;have Q4:=qhp ((HP.kept w8).mono (qhv _) w8.size);clear C7 u9 r6 w8;go_wp2;go_loopw [29] (λiv wr=>∃k:Nat,iv=.int .i64 k/\k<=U.length/\w3.gb wr none) (λiv _=>(U.length - qiF iv).toNat)
 case atStart=>exact⟨0,rfl,by omega,qhD _ _⟩
 case round=>
  obtain⟨k,rfl,hk,hG⟩:=hrel;have HG:=qhp hG;have E1:=Q4.out.kept hG;have U4:=hG.cl q0;have U3:=hG.cl q1;have W2:Y<wr.heap.size:=by have:=qA D6;have:=hG.size;omega
  clear hG;by_cases v3:k<U.length
  ·obtain⟨b2,c2,he,-,hc⟩:=E1.cell;cases he;obtain⟨YB,yo,rfl,hY1,hY2,r6,k0⟩:=hc (by intro e;rw[e] at v3;simp at v3);have⟨p,hp,p0,p1,p2,p3⟩:=k0 k (by omega);have hpt:=P1.out p (qi9 hp);have L4:(k:Int)<(U.length:Int):=by omega
   clear hc k0 hp E1;go_wp2;go_roundw
   case rel=>exact⟨k+1,by simp,by omega,HG.t (qhq _ _ _)⟩
   case measure=>simp[qiF];omega
  ·obtain rfl:k=U.length:=by omega
   clear E1;go_upto_region 11 with(fail);obtain⟨Sg,C9⟩:∃Sg,Sg=wr.heap.size:=⟨_,rfl⟩;obtain⟨w4,u7⟩:∃w4,w4=wr.alloc (.cells #[.slice none 0 0] 36):=⟨_,rfl⟩;rw[<- C9,<- u7];have N8:w4.heap[Sg]?=some (.cells #[.slice none 0 0] 36 (0,0)):=by rw[u7,C9];exact qhA _ _
   have s1:w3.gb w4 none:=HG.out.t (by rw[u7];exact qhq _ _ none);have k0:=bk s1 D6;have hwB:w.heap.size<=Sg:=by have:=t6.out.size;have:=HG.out.size;omega
   have⟨E5,s5⟩:=qE N8 k0;have e4:=qhp (t6.t s1);have Q3:=qhp ((HP.kept (t6.t s1)).mono (qhv _) (t6.t s1).size);have c0:=q8 k0 (o:=0) rfl;have c1:=q8 k0 (o:=1) rfl;clear C9 u7 N8 s1 k0 D6 q0 q1 U4 U3 W2;have hn:U.length<=1000:=by have:=t1.out.len;omega
   go_upto_region 12 with(first
    | (go_at_call 100;refine(vh yb U.length yc a9 w4 hn).mono ?_;rintro e w5 ⟨v5,rfl,N4,D4⟩;obtain⟨b5,k5,e5,-,-⟩:=D4.cell;rw[z6] at e5;subst e5;have L:=qhp N4;have R5:=qhp D4;clear N4 D4)
    | (go_at_call 82;refine(qe0 (bk L s5) ((Q3.kept L).mono (qhv _) L.size) (bk L E5) t1 P8 HN (R5.mono (qiu _) (qhv _))).mono ?_;rintro e w6 ⟨rfl,G6,N6⟩;have e6:=qhp N6;clear N6))
   have⟨SB,sc,d9,M5,l7⟩:=e6.out.rows (by rw[<- x2];exact W3) (by rw[<- x2];omega);rw[<- x2] at d9 l7;have Q:w.gb w6 none:=⟨e6.os.trans (e4.t L).os,e6.tape.trans (e4.t L).tape,e6.output.trans (e4.t L).output,qhB (e4.t L).size e6.size,λk hk _=>(e6.keep k (qi0 hk (e4.t L).size) (by omega)).t ((e4.t L).block k hk (by simp))⟩;have C8:w6.heap[Y]?=_:=(e6.keep Y (qA (bk L s5)) (λe=>by have h:=s5.out;rw[e,E5] at h;injection h with h;injection h with _ h _;exact absurd h (by decide))).t (bk L s5);have V3:=l7;obtain⟨csS,n6,-⟩:=V3;have M4:SB<w6.heap.size:=qA n6;have⟨R8,P0,P4,P6⟩:=j8 Q C8 d9 l7;have U9:w.heap.size<=SB:=by have:=(e4.t L).size;omega
   have M2:SB≠Sg:=λe=>by rw[e,d9] at n6;injection n6 with h;injection h with _ h _;exact absurd h (by decide)
   have D0:SB≠Y:=λe=>by rw[e,C8] at n6;injection n6 with h;injection h with _ h _;exact absurd h (by decide)
   have R3:=qhp (show w5.heap.size<=SB from M5);have c6:=q8 d9 (o:=0) rfl;clear Q C8 d9 l7 M5 c0 c1 e6 n6;go_upto_region 13 with(go_at_call 121;refine(qaF _ _ SB 0 sc SL w6 P6 (qhv _) M7).mono ?_;rintro e w7 ⟨rfl,N3,M9⟩;have c3:=qhp N3;have P5:=qhp M9;clear N3 M9);have v6:=blk c3 (by simpa using λe=>D0 e.symm) P0;have M6:=blk c3 (by simpa using λe=>M2 e.symm) P4;have⟨HY7,P3⟩:=qE v6 M6;have b6:w.gb w7 none:=xW R8 c3 U9;have R7:=qhp b6;have d0:=q8 v6 (o:=0) rfl;have d1:=q8 v6 (o:=1) rfl;clear v6 M6 c6 b6;have h5:∀x∈qO U.length,0<=x/\x<5:=λx hx=>by have:=vU hx;have:=t1.out.len;omega
   have H5:=qhp h5;clear h5;go_upto_region 14 with(first
    | (go_at_call 100;refine(vh yb U.length yc a9 w7 hn).mono ?_;rintro e w9 ⟨v9,rfl,N1,D3⟩;obtain⟨b9,k9,e9,-,-⟩:=D3.cell;rw[z6] at e9;subst e9;have x4:=qhp N1;have R4:=qhp D3;clear N1 D3)
    | (go_at_call 123;refine(q17 _ _ _ _ w9 R4 H5).mono ?_;rintro e w10 ⟨rfl,rfl⟩))
   obtain⟨S,hS⟩:∃S,S=zL SL.length SL:=⟨_,rfl⟩;have k6:S.length=SL.length:=by rw[hS,JO]
   rw[<- hS] at HF x1;obtain⟨al,M0⟩:∃al,al=zj (qO U.length):=⟨_,rfl⟩;rw[<- M0] at HF ⊢;have M8:RowsIn 0 w9.heap.size w9 (.slice (some SB) S.length sc) S:=by
    have h1:zn w5.heap.size w6.heap.size SB 0 w7 S:=by rw[hS];exact P5
    have h2:=h1.rows M4 R3 (by omega) sc;exact(h2.kept x4).mono (qiu _) (qhB c3.size x4.size)
   rw[<- k6] at P3;have L9:w.gb w9 none:=R7.out.t x4;have B9:=bk x4 P3;have c9:=q8 B9 (o:=0) rfl;have hSg9:=qA B9;have⟨X2,X8,X1⟩:=ze M8 L9 k6;have r7:S.length<=12:=by omega
   clear hS M0 M8 L9 B9 k6 x2 P1 HN P8 HP Q4 Q3 E5 s5 P0 P4 P6 P5 R5 R4 T t6 e4 L R8 c3 R7 HG d0 d1 R3 H5;go_upto_region 15 with(fail);have N7:q6H S al R (.slice (some w9.heap.size) 1 1) (w9.alloc (.cells #[.slice none 0 0,.int .u8 0] 133)) f:=by
    refine⟨[([],0)],⟨_,1,rfl,λ_=>⟨w9.heap.size,0,_,_,rfl,by simp,qhA _ _,λi hi=>?_⟩⟩,⟨by simp,λp hp=>?_⟩,λp hp=>?_,HF⟩
    ·obtain rfl:i=0:=by simp at hi;omega
     exact⟨([],0),_,_,rfl,rfl,rfl,⟨none,0,rfl,by simp,λh=>absurd rfl h⟩,rfl,λa n c e=>by cases e;omega⟩
    ·obtain rfl:p=([],0):=by simpa using hp
     simp
    ·obtain rfl:p=([],0):=by simpa using hp
     simpa using q6
   have X9:=qhp N7;clear N7;refine wp_label ?_;go_wp2;go_loopw [10] (λnv wr=>(∃m,m<=100/\q6H S al R nv wr m)/\w9.gb wr none) (λnv wr=>q7b S al R nv wr)
   case atStart=>exact⟨⟨f,q6,X9⟩,qhq _ _ none⟩
   case round=>
    obtain⟨wo,rfl⟩:∃x,x=wr:=⟨wr,rfl⟩;obtain⟨⟨m,hm,hP⟩,hg⟩:=hrel;have hQ:=q67 hm hP;have V6:=q40 hm hP;obtain⟨m0,C4⟩:∃m0,m0=q7b S al R u10 wo:=⟨_,rfl⟩;rw[<- C4] at hQ V6;obtain⟨u,m8,p7,H2,l6⟩:=hQ;have H4:=m8;obtain⟨nb,nc,rfl,-⟩:=H4;cases m0 with
    | zero=>cases l6
    | succ n=>
     simp only[qbG] at l6;have⟨X7,HG,X3,s6,D8,A3⟩:=Kq C4 hg m8 p7 H2 l6;have V2:=p7.1;have V5:n<100:=by omega
     clear hm hP hg C4 m8 p7 H2 l6;go_wp2;go_loopw [11,53] (λnx iv wq=>∃k:Nat,iv=.int .i64 k/\k<=u.length/\(∀p∈u.take k,p.2≠al)/\wo.gb wq none/\jM wo.heap.size wq nx (jy S (u.take k))) (λ_ iv _=>(u.length - qiF iv).toNat)
     case atStart=>exact⟨0,rfl,by omega,by simp,qhD _ _,jM.nil _ _⟩
     case round=>
      obtain⟨k,rfl,hk,L1,C6,g7⟩:=hrel;have t5:=qhp C6;have X:=C6;have⟨E3,x3⟩:=qE L1 g7;clear C6 L1 g7;by_cases v3:k<u.length
      ·obtain⟨RB,ro,p,pa,pn,pc,rfl,H9,H8,r1,r2,r3,r4⟩:=X3.out.at v3;have V9:=X.cl r1;have V8:=X.cl r2;have L4:(k:Int)<(u.length:Int):=by omega
       obtain⟨b,d⟩:=p;dsimp only at r1 r2 r3 r4 H8;subst H8;have N9:=(HG.t X).cl c9;have hSgk:Sg<wr.heap.size:=by have:=(HG.t X).size;omega
       go_upto_region 19 with(fail);obtain⟨Z,v8⟩:∃Z,Z=wr.heap.size:=⟨_,rfl⟩;obtain⟨w1,v0⟩:∃w1,w1=wr.alloc (.cells #[.slice pa b.length pc,.int .u8 (d:Nat)] 133):=⟨_,rfl⟩;rw[<- v8,<- v0];have d7:wr.gb w1 none:=by rw[v0];exact qhq _ _ none
       have l4:w1.heap[Z]?=some (.cells #[.slice pa b.length pc,.int .u8 (d:Nat)] 133 (0,0)):=by rw[v0,v8];exact qhA _ _
       have b0:=q8 l4 (o:=0) rfl;have b1:=q8 l4 (o:=1) rfl;have X0:=d7.cl N9;have P7:=qhp r3;have X4:=qhp ((r3.kept (X.t d7)).mono (qhv _) (X.t d7).size);have⟨P9,l9,s9,n7⟩:=j8 l4 d7 v8 H9;clear l4 v0 d7 v8 r1 r2 r3 V9 V8 H9 N9 X;by_cases C1:d=al
       ·subst C1;go_wp2;rw[Exit.noGoto_ret];go_ret2;have N:=A3.out;rw[Yu (λp:Rec=>p.2 == d) u k _ n7 (by simp) (λi y hi hy=>by
         have:=E3.out y (qi9 (by rw[qk4 hi];exact hy));simpa using this)] at N
        simp only[qiD] at N;exact⟨_,rfl,X8.t (HG.t (t5.t l9)),by rw[<- N];exact X4⟩
       ·have hpe':((d:Int) == (al:Int))=false:=by rw[beq_eq_false_iff_ne];omega
        have X5:=qhp C1;clear C1;obtain⟨wp,U8⟩:∃x,x=wr:=⟨wr,rfl⟩;have z4:wo.gb w1 none:=t5.out.t l9;have hsz1:wo.heap.size<=Z:=by have:=t5.out.size;have:=s9.out;omega
        have L3:∀g,u11.ownBlock=some g->g≠Z:=λg e=>by
         obtain⟨C,h1,-,-⟩:=x3.out;have:=(h1.lt g e).2;have:=s9.out;omega
        have R2:=qhp (x3.kept l9);have⟨R6,X6⟩:=qE z4 L3;clear U8 z4 L3 x3 l9 t5 s9;go_wp2;clear b0 b1 X0;go_loopw [11,65] (λnx iv wq=>∃j:Nat,iv=.int .i64 j/\j<=S.length/\wo.gb wq none/\wq.heap[Z]?=some (.cells #[.slice pa b.length pc,.int .u8 (d:Nat)] 133 (0,0))/\(∀g,nx.ownBlock=some g->g≠Z)/\jM wo.heap.size wq nx (jy S (u.take k)++((S.take j).filter (okF (b,d))).map (QV (b,d)))) (λ_ iv _=>(S.length - qiF iv).toNat)
        case atStart=>exact⟨0,rfl,by omega,R6,P9,X6,by simpa using R2.out⟩
        case round=>
         obtain⟨j,rfl,hj,g8,d5,z3,z2⟩:=hrel;have hc9:=q8 (o:=0) d5 rfl;have hc10:=q8 (o:=1) d5 rfl;have⟨b8,a7,a8,l8⟩:=j8 g8 d5 z3 z2;have Z5:=g8.size;have hPbl:=qA d5;clear d5 z3 z2;by_cases C5:j<S.length
         ·obtain⟨sb',sc',eS,-,v7⟩:=(X2.kept (HG.t g8)).cell;cases eS;obtain⟨SB',so,eS,-,-,-,v7⟩:=v7 (by intro e;rw[e] at C5;simp at C5);cases eS;have⟨s,x,B8,V0,v1⟩:=v7 j C5;rw[qi6] at V0;obtain⟨xb,xc,rfl,-,x8⟩:=v1.cell;have⟨x7,H1⟩:=x1.out s (qi9 B8);obtain⟨XB,xo,rfl,-,-,-,e8⟩:=x8 x7;have B7:0<s.length:=qm6.2 x7;have e8:=e8 0 B7;have hjli:(j:Int)<(S.length:Int):=by omega
          have S5:(0:Int)<(s.length:Int):=by omega
          have p6:=λC (h:World.gb _ C none)=>q17 _ _ _ s C (v1.kept h) H1;have C3:=xE s 5 λy hy=>by have:=H1 y hy;omega
          have l5:okF (b,d) s=(!(decide (0<b.length) && decide (JQ s<=JQ (q7q b))) && decide (d &&& zj s=0)):=rfl;have p8:=(s6.2 _ (qi9 n7)).2.1;have P:=q9y ⟨d,p8⟩ ⟨zj s,C3⟩;have n4:=qcn ⟨d,p8⟩ ⟨zj s,C3⟩;have q7:QV (b,d) s=(b++[s],d ||| zj s):=rfl;simp only at P n4 p8;rw[show s[0]?.getD 0=JQ s from rfl] at e8;generalize zj s=ms at p6 C3 l5 P n4 q7;generalize JQ s=hs at e8 l5;have z5:(S.take (j+1)).filter (okF (b,d))=(S.take j).filter (okF (b,d))++(if okF (b,d) s=true then[s] else[]):=by
           rw[qj7,B8,qmh];simp[qox]
          have⟨t8,a6,A,m3,R1,A4,P2⟩:=q6k z5 p6 l5 P n4 q7 v1;have s8:=qhp ((P7.kept g8).mono (qhv _) g8.size);clear z5 p6 l5 P n4 q7 v1 v7 B8 g8 x8;have r5:okF (b,d) s=false->∀C,wr.gb C none->jM wo.heap.size C u11 (jy S (u.take k)++((S.take (j+1)).filter (okF (b,d))).map (QV (b,d))):=λe C h=>by
           rw[t8,e];simpa using l8.out.kept h
          have k8:=qhp r5;clear r5;have x6:w9.heap.size<=wr.heap.size:=(HG.t b8).size;have z1:=D8.out _ (qi9 n7);dsimp only at z1;have hprl:b.length<=100:=by omega
          clear z1;by_cases v2:0<b.length
          ·have V4:(0:Int)<(b.length:Int):=by omega
           rw[show decide (0<b.length)=true by simpa using v2] at A;simp only[qpu] at A;obtain⟨lb,lc,el,-,v4⟩:=s8.out.cell;cases el;obtain⟨LB,lo,rfl,-,-,-,v4⟩:=v4 (by intro e;rw[e] at v2;simp at v2);have⟨r,x,m8,hrc,H3⟩:=v4 (b.length - 1) (by omega);have p9:q7q b=r:=by unfold q7q;rw[m8];rfl
           have H6:=(s6.2 _ (qi9 n7)).1 r (qi9 m8);obtain⟨z0,-⟩:=x1.out r H6;obtain⟨rb,rc,rfl,-,g5⟩:=H3.cell;obtain⟨QB,qo,rfl,-,-,-,g5⟩:=g5 z0;have C0:0<r.length:=qm6.2 z0;have g5:=g5 0 C0;rw[Nat.add_zero] at g5;have e8:=e8;rw[Nat.add_zero] at e8;rw[p9] at A;rw[show r[0]?.getD 0=JQ r from rfl] at g5;have S6:(0:Int)<(r.length:Int):=by omega
           have hwn:IntKind.i64.wrap ((b.length:Int) - 1)=(b.length:Int) - 1:=qin _ (by omega);have L0:((b.length:Int) - 1).toNat=b.length - 1:=by omega
           have hnn1:(0:Int)<=(b.length:Int) - 1:=by omega
           have hnn2:(b.length:Int) - 1<(b.length:Int):=by omega
           generalize JQ r=hr at g5 A;clear v4 p9 H6 H3;by_cases L5:hs<=hr
           ·have D:okF (b,d) s=false:=by rw[A];simp[L5]
            have I:=qhp D;clear D;go_upto_region 25 with(fail);go_quiet (first | (go_at_call 123;refine qk0 ((a6 _ (qk _ _ none)).mono (λe w5 h=>⟨h.1,h.2.symm⟩))));go_wp2;exact⟨⟨j+1,by simp,by omega,b8.t (qk _ _ none),a7,a8,k8 I _ (qk _ _ none)⟩,by simp[qiF];omega⟩
           ·rw[show decide (hs<=hr)=false by simpa using L5] at A;simp only[qnn,qpu] at A;by_cases hz:d &&& ms=0
            ·have B5:(((d &&& ms:Nat):Int) != 0)=false:=by rw[hz];rfl
             have D:okF (b,d) s=true:=by rw[A];simpa using hz
             have I:=qhp D;have P:=m3.out;clear hz D;go_upto_region 25 with(fail);go_quiet (first | (go_at_call 123;refine qk0 ((a6 _ (qk _ _ none)).mono (λe w5 h=>⟨h.1,h.2.symm⟩))));go_upto_region 26 with(fail);have h8:=qk wr nq none;have B6:wr.heap.size=(wr.drewN nq).heap.size:=rfl;generalize wr.drewN nq=wa at h8 B6 ⊢;have g9:wr.gb wa.drew none:=h8.t (qe wa none);have g6:=bk g9 a7;have s0:wa.drew.cell? Z=some (.slice (some ⟨LB,lo,none⟩) b.length pc)/\wa.drew.cell? ⟨Z,1,none⟩=some (.int .u8 (d:Nat)):=⟨q8 g6 rfl,q8 g6 rfl⟩;have p4:=s0.1;have n9:=s0.2;have⟨C,n1,n2,n3⟩:=l8.out;have⟨oa,om,oc,eo⟩:=zB n1;subst eo;have⟨E4,O,t4,t3⟩:=j8 g9 n1 n2 n3;have n4:=R1.out;have K1:(b.length:Int)<=(pc:Int):=by omega
             have L2:(0:Int)<=(b.length:Int):=by omega
             have D1:(jy S (u.take k)++((S.take j).filter (okF (b,d))).map (QV (b,d))).length<=20000:=by
              have h1:=q1g S (u.take k);have h2:=qkb (okF (b,d)) (S.take j);have h3:(u.take k).length*S.length<=1000*12:=Nat.mul_le_mul (by rw[qky];omega) r7;rw[qj1,qkk];rw[qky] at h2;omega
             generalize r8:(jy S (u.take k)++((S.take j).filter (okF (b,d))).map (QV (b,d)))=RR at O t4 t3 D1;have D7:=qhp r8;have V7:wo.heap.size<=wa.heap.size:=by have:=b8.out.size;omega
             clear h8 g9 g6 n1 n2 n3 r8;refine qz 21 (λw'=>w'.cell? Z=some (.slice (some ⟨LB,lo,none⟩) b.length pc)/\w'.cell? ⟨Z,1,none⟩=some (.int .u8 (d:Nat))) (by kernel_rfl) (by kernel_rfl) s0 (λhHeld=>?_);simp only[qhE,qi1,qib,qiA,qi6,qie,qif,qio,qii,qi7];refine tk 0 (h:=tk 1 (h:=tk 2 (h:=tk 3 (h:=tk 4 (h:=tk 5 (h:=tk 6 (h:=tk 7 (h:=tk 8 (h:=tk 9 (h:=tk 10 (h:=tk 13 (h:=tk 14 (h:=tk 15 (h:=?_))))))))))))));try go_frame
             refine rdc 11 λK hK=>?_;go_simp;refine hK.out _ _ (by first | exact hHeld | exact s7 | exact s2 | exact⟨(qhq _ _ none).cl hHeld.1,(qhq _ _ none).cl hHeld.2⟩) (λhHeld=>?_);refine rdc 12 λK hK=>?_;have M:wr.gb (wa.drew.alloc (.cells #[.slice (some ⟨XB,xo,none⟩) s.length xc] 29)) none:=E4.out.t (qhq _ _ none);refine YJ rfl (.tmp 105) (.tmp 107) rfl (nc:=pc) (B:=wa.heap.size) (y:=.slice (some ⟨XB,xo,none⟩) s.length xc) (l:=s) (by rfl) (by rfl) ((s8.kept M).mono (qhv _) M.size) (kS wa.drew _ _ _) ((P2.kept M).mono (qiu _) (qhB x6 M.size)) (by omega) (λg G F q2 q3 q5=>?_);have h9:=M.t q2;have s2:F.cell? Z=some (.slice (some ⟨LB,lo,none⟩) b.length pc)/\F.cell? ⟨Z,1,none⟩=some (.int .u8 (d:Nat)):=⟨q2.cl ((qhq wa.drew _ none).cell p4 (by simp)),q2.cl ((qhq wa.drew _ none).cell n9 (by simp))⟩;have⟨T,E0,D9⟩:=ze h9 q3 q5;have V1:wa.heap.size<=F.heap.size:=by have:=h9.size;omega
             clear M q2 q3 q5 h9;refine hK.out _ _ (by first | exact hHeld | exact s7 | exact s2 | exact⟨(qhq _ _ none).cl hHeld.1,(qhq _ _ none).cl hHeld.2⟩) (λhHeld=>?_);refine rdc 16 λK hK=>?_;go_simp;go_at_call 123;refine(a6 F T).mono ?_;rintro e w3 ⟨rfl,rfl⟩;refine hK.out _ _ (by first | exact hHeld | exact s7 | exact s2 | exact⟨(qhq _ _ none).cl hHeld.1,(qhq _ _ none).cl hHeld.2⟩) (λhHeld=>?_);refine tk 17 (h:=tk 18 (h:=?_));try go_frame
             refine rdc 19 λK hK=>?_;go_simp;refine hK.out _ _ (by first | exact hHeld | exact s7 | exact s2 | exact⟨(qhq _ _ none).cl hHeld.1,(qhq _ _ none).cl hHeld.2⟩) (λhHeld=>?_);refine rdc 20 λK hK=>?_;have r9:=jR (C:=F) O (λg e=>T.block g (O.lt g e).2 (by simp));refine step_append_lies _ (by rfl) _ _ _ (by rfl) wo.heap.size 133 i0 _ 2 32 Tp.und134 L8 G8 G7 G5 rfl (by omega) (.slice oa om oc) RR.length (Ji C) (by rfl) (by exact r9.alloc _) ⟨F.heap.size,0,none⟩ 1 1 [.slice (some ⟨g,0,none⟩) (b.length+1) G,.int .u8 ((d ||| ms:Nat):Int)] (by rfl) (by rfl) (qje (cs:=#[.slice (some ⟨g,0,none⟩) (b.length+1) G,.int .u8 ((d ||| ms:Nat):Int)]) (t:=133) (fr:=(0,0)) (qhA F _)) (by simp[qjD]) (by omega) (by unfold qlg;omega) (by omega) (by simp;omega) (F.heap.size+1) (by simp) ?_;intro g' cp w7 V z d8 q4;have h6:(F.alloc (.cells #[.slice (some ⟨g,0,none⟩) (b.length+1) G,.int .u8 ((d ||| ms:Nat):Int)] 133)).gb w7 (qjc oa om oc).ownBlock:=⟨z.os,z.tape,z.output,z.size,z.block⟩;have Q:=T.out.t (qhq F (.cells #[.slice (some ⟨g,0,none⟩) (b.length+1) G,.int .u8 ((d ||| ms:Nat):Int)] 133) none);have b6:wr.gb w7 (qjc oa om oc).ownBlock:=(Q.but _).t h6;have H:=blk b6 (λe=>a8 _ e.symm rfl) a7;have s7:w7.cell? Z=some (.slice (some ⟨LB,lo,none⟩) b.length pc)/\w7.cell? ⟨Z,1,none⟩=some (.int .u8 (d:Nat)):=⟨q8 H rfl,q8 H rfl⟩;have k7:=jR (C:=F.alloc (.cells #[.slice (some ⟨g,0,none⟩) (b.length+1) G,.int .u8 ((d ||| ms:Nat):Int)] 133)) O (λg e=>Q.block g (O.lt g e).2 (by simp));have c8:xg (F.alloc (.cells #[.slice (some ⟨g,0,none⟩) (b.length+1) G,.int .u8 ((d ||| ms:Nat):Int)] 133)) (.slice (some ⟨g,0,none⟩) (b.length+1) G) (.int .u8 ((d ||| ms:Nat):Int)) (b++[s],d ||| ms):=⟨(E0.kept (qhq F _ none)).mono (qhv _) (qhq F _ none).size,rfl,λa n c e=>by cases e;exact D9⟩;have d6:=jM.push k7 t4 (λi p x e1 e2=>(t3 i p x e1 e2).kept Q) h6 V (c8.app k7 h6);have⟨t2,c3,E2,E6⟩:=j8 d6 b6 H d8;clear V z d8 q4 h6 Q b6 H r9 k7 c8 d6;refine hK.out _ _ (by first | exact hHeld | exact s7 | exact s2 | exact⟨(qhq _ _ none).cl hHeld.1,(qhq _ _ none).cl hHeld.2⟩) (λhHeld=>?_);try go_frame
             refine⟨by kernel_rfl,?_⟩;simp only[qig,qit];clear s0 p4 n9 s2 s7 hHeld;go_wp2;refine⟨⟨j+1,by simp,by omega,b8.andThen c3 (λi e=>.inl (O.lt i e).1),E2,λi e=>?_,?_⟩,by simp[qiF];omega⟩
             ·obtain rfl:g'=i:=by simpa[qix] using e
              rcases E6 with h | h
              ·exact a8 _ h
              ·have:=T.out.size;omega
             ·rw[t8,if_pos I.out,qk1,<- qk8,D7,show List.map (QV (b,d)) [s]=[QV (b,d) s] from rfl,A4];exact t2
            ·have B5:(((d &&& ms:Nat):Int) != 0)=true:=by simpa using hz
             have D:okF (b,d) s=false:=by rw[A];simpa using hz
             have I:=qhp D;have P:=m3.out;clear hz D;go_upto_region 25 with(fail);go_quiet (first | (go_at_call 123;refine qk0 ((a6 _ (qk _ _ none)).mono (λe w5 h=>⟨h.1,h.2.symm⟩))));go_wp2;exact⟨⟨j+1,by simp,by omega,b8.t (qk _ _ none),a7,a8,k8 I _ (qk _ _ none)⟩,by simp[qiF];omega⟩
          ·have V4:¬ (0:Int)<(b.length:Int):=by omega
           rw[show decide (0<b.length)=false by simpa using v2] at A;simp only[Bool.false_and,qnn,qpu] at A;by_cases hz:d &&& ms=0
           ·have B5:(((d &&& ms:Nat):Int) != 0)=false:=by rw[hz];rfl
            have D:okF (b,d) s=true:=by rw[A];simpa using hz
            have I:=qhp D;have P:=m3.out;clear hz D;go_upto_region 25 with(fail);go_quiet (first | (go_at_call 123;refine qk0 ((a6 _ (qk _ _ none)).mono (λe w5 h=>⟨h.1,h.2.symm⟩))));go_upto_region 26 with(fail);have h8:=qk wr nq none;have B6:wr.heap.size=(wr.drewN nq).heap.size:=rfl;generalize wr.drewN nq=wa at h8 B6 ⊢;have g9:wr.gb wa.drew none:=h8.t (qe wa none);have g6:=bk g9 a7;have s0:wa.drew.cell? Z=some (.slice pa b.length pc)/\wa.drew.cell? ⟨Z,1,none⟩=some (.int .u8 (d:Nat)):=⟨q8 g6 rfl,q8 g6 rfl⟩;have p4:=s0.1;have n9:=s0.2;have⟨C,n1,n2,n3⟩:=l8.out;have⟨oa,om,oc,eo⟩:=zB n1;subst eo;have⟨E4,O,t4,t3⟩:=j8 g9 n1 n2 n3;have n4:=R1.out;have K1:(b.length:Int)<=(pc:Int):=by omega
            have L2:(0:Int)<=(b.length:Int):=by omega
            have D1:(jy S (u.take k)++((S.take j).filter (okF (b,d))).map (QV (b,d))).length<=20000:=by
             have h1:=q1g S (u.take k);have h2:=qkb (okF (b,d)) (S.take j);have h3:(u.take k).length*S.length<=1000*12:=Nat.mul_le_mul (by rw[qky];omega) r7;rw[qj1,qkk];rw[qky] at h2;omega
            generalize r8:(jy S (u.take k)++((S.take j).filter (okF (b,d))).map (QV (b,d)))=RR at O t4 t3 D1;have D7:=qhp r8;have V7:wo.heap.size<=wa.heap.size:=by have:=b8.out.size;omega
            clear h8 g9 g6 n1 n2 n3 r8;refine qz 21 (λw'=>w'.cell? Z=some (.slice pa b.length pc)/\w'.cell? ⟨Z,1,none⟩=some (.int .u8 (d:Nat))) (by kernel_rfl) (by kernel_rfl) s0 (λhHeld=>?_);simp only[qhE,qi1,qib,qiA,qi6,qie,qif,qio,qii,qi7];refine tk 0 (h:=tk 1 (h:=tk 2 (h:=tk 3 (h:=tk 4 (h:=tk 5 (h:=tk 6 (h:=tk 7 (h:=tk 8 (h:=tk 9 (h:=tk 10 (h:=tk 13 (h:=tk 14 (h:=tk 15 (h:=?_))))))))))))));try go_frame
            refine rdc 11 λK hK=>?_;go_simp;refine hK.out _ _ (by first | exact hHeld | exact s7 | exact s2 | exact⟨(qhq _ _ none).cl hHeld.1,(qhq _ _ none).cl hHeld.2⟩) (λhHeld=>?_);refine rdc 12 λK hK=>?_;have M:wr.gb (wa.drew.alloc (.cells #[.slice (some ⟨XB,xo,none⟩) s.length xc] 29)) none:=E4.out.t (qhq _ _ none);refine YJ rfl (.tmp 105) (.tmp 107) rfl (nc:=pc) (B:=wa.heap.size) (y:=.slice (some ⟨XB,xo,none⟩) s.length xc) (l:=s) (by rfl) (by rfl) ((s8.kept M).mono (qhv _) M.size) (kS wa.drew _ _ _) ((P2.kept M).mono (qiu _) (qhB x6 M.size)) (by omega) (λg G F q2 q3 q5=>?_);have h9:=M.t q2;have s2:F.cell? Z=some (.slice pa b.length pc)/\F.cell? ⟨Z,1,none⟩=some (.int .u8 (d:Nat)):=⟨q2.cl ((qhq wa.drew _ none).cell p4 (by simp)),q2.cl ((qhq wa.drew _ none).cell n9 (by simp))⟩;have⟨T,E0,D9⟩:=ze h9 q3 q5;have V1:wa.heap.size<=F.heap.size:=by have:=h9.size;omega
            clear M q2 q3 q5 h9;refine hK.out _ _ (by first | exact hHeld | exact s7 | exact s2 | exact⟨(qhq _ _ none).cl hHeld.1,(qhq _ _ none).cl hHeld.2⟩) (λhHeld=>?_);refine rdc 16 λK hK=>?_;go_simp;go_at_call 123;refine(a6 F T).mono ?_;rintro e w3 ⟨rfl,rfl⟩;refine hK.out _ _ (by first | exact hHeld | exact s7 | exact s2 | exact⟨(qhq _ _ none).cl hHeld.1,(qhq _ _ none).cl hHeld.2⟩) (λhHeld=>?_);refine tk 17 (h:=tk 18 (h:=?_));try go_frame
            refine rdc 19 λK hK=>?_;go_simp;refine hK.out _ _ (by first | exact hHeld | exact s7 | exact s2 | exact⟨(qhq _ _ none).cl hHeld.1,(qhq _ _ none).cl hHeld.2⟩) (λhHeld=>?_);refine rdc 20 λK hK=>?_;have r9:=jR (C:=F) O (λg e=>T.block g (O.lt g e).2 (by simp));refine step_append_lies _ (by rfl) _ _ _ (by rfl) wo.heap.size 133 i0 _ 2 32 Tp.und134 L8 G8 G7 G5 rfl (by omega) (.slice oa om oc) RR.length (Ji C) (by rfl) (by exact r9.alloc _) ⟨F.heap.size,0,none⟩ 1 1 [.slice (some ⟨g,0,none⟩) (b.length+1) G,.int .u8 ((d ||| ms:Nat):Int)] (by rfl) (by rfl) (qje (cs:=#[.slice (some ⟨g,0,none⟩) (b.length+1) G,.int .u8 ((d ||| ms:Nat):Int)]) (t:=133) (fr:=(0,0)) (qhA F _)) (by simp[qjD]) (by omega) (by unfold qlg;omega) (by omega) (by simp;omega) (F.heap.size+1) (by simp) ?_;intro g' cp w7 V z d8 q4;have h6:(F.alloc (.cells #[.slice (some ⟨g,0,none⟩) (b.length+1) G,.int .u8 ((d ||| ms:Nat):Int)] 133)).gb w7 (qjc oa om oc).ownBlock:=⟨z.os,z.tape,z.output,z.size,z.block⟩;have Q:=T.out.t (qhq F (.cells #[.slice (some ⟨g,0,none⟩) (b.length+1) G,.int .u8 ((d ||| ms:Nat):Int)] 133) none);have b6:wr.gb w7 (qjc oa om oc).ownBlock:=(Q.but _).t h6;have H:=blk b6 (λe=>a8 _ e.symm rfl) a7;have s7:w7.cell? Z=some (.slice pa b.length pc)/\w7.cell? ⟨Z,1,none⟩=some (.int .u8 (d:Nat)):=⟨q8 H rfl,q8 H rfl⟩;have k7:=jR (C:=F.alloc (.cells #[.slice (some ⟨g,0,none⟩) (b.length+1) G,.int .u8 ((d ||| ms:Nat):Int)] 133)) O (λg e=>Q.block g (O.lt g e).2 (by simp));have c8:xg (F.alloc (.cells #[.slice (some ⟨g,0,none⟩) (b.length+1) G,.int .u8 ((d ||| ms:Nat):Int)] 133)) (.slice (some ⟨g,0,none⟩) (b.length+1) G) (.int .u8 ((d ||| ms:Nat):Int)) (b++[s],d ||| ms):=⟨(E0.kept (qhq F _ none)).mono (qhv _) (qhq F _ none).size,rfl,λa n c e=>by cases e;exact D9⟩;have d6:=jM.push k7 t4 (λi p x e1 e2=>(t3 i p x e1 e2).kept Q) h6 V (c8.app k7 h6);have⟨t2,c3,E2,E6⟩:=j8 d6 b6 H d8;clear V z d8 q4 h6 Q b6 H r9 k7 c8 d6;refine hK.out _ _ (by first | exact hHeld | exact s7 | exact s2 | exact⟨(qhq _ _ none).cl hHeld.1,(qhq _ _ none).cl hHeld.2⟩) (λhHeld=>?_);try go_frame
            refine⟨by kernel_rfl,?_⟩;simp only[qig,qit];clear s0 p4 n9 s2 s7 hHeld;go_wp2;refine⟨⟨j+1,by simp,by omega,b8.andThen c3 (λi e=>.inl (O.lt i e).1),E2,λi e=>?_,?_⟩,by simp[qiF];omega⟩
            ·obtain rfl:g'=i:=by simpa[qix] using e
             rcases E6 with h | h
             ·exact a8 _ h
             ·have:=T.out.size;omega
            ·rw[t8,if_pos I.out,qk1,<- qk8,D7,show List.map (QV (b,d)) [s]=[QV (b,d) s] from rfl,A4];exact t2
           ·have B5:(((d &&& ms:Nat):Int) != 0)=true:=by simpa using hz
            have D:okF (b,d) s=false:=by rw[A];simpa using hz
            have I:=qhp D;have P:=m3.out;clear hz D;go_upto_region 25 with(fail);go_quiet (first | (go_at_call 123;refine qk0 ((a6 _ (qk _ _ none)).mono (λe w5 h=>⟨h.1,h.2.symm⟩))));go_wp2;exact⟨⟨j+1,by simp,by omega,b8.t (qk _ _ none),a7,a8,k8 I _ (qk _ _ none)⟩,by simp[qiF];omega⟩
         ·obtain rfl:j=S.length:=by omega
          have hjn:¬ (S.length:Int)<(S.length:Int):=by omega
          clear g8;go_wp2;refine⟨⟨k+1,by simp,by omega,λq hq=>?_,b8,?_⟩,by simp[qiF];omega⟩
          ·rw[qj7,n7] at hq;rcases qku.1 hq with h | h
           ·exact E3 q h
           ·simp at h;subst h;exact X5
          ·rw[q6c n7];have:=l8.out;rw[qjs] at this;exact this
      ·obtain rfl:k=u.length:=by omega
       have L0:(u.find? λp=>p.2 == al)=none:=qn3.2 λp hp=>by have:=E3.out p (by rw[qjs];exact hp);simpa using this
       have N:=A3.out;rw[L0] at N;have L6:(jy S u).length<=1000:=by
        refine qj6 λh=>?_;simp only[if_neg h] at N;cases N
       simp only[if_pos L6] at N;have C2:jy S u≠[]:=λh=>by
        rw[if_pos h] at N;cases N
       rw[if_neg C2] at N;have g7:=x3.out;rw[qjs] at g7;have N0:∀W v,QD W v (jy S u)->q6H S al R v W n:=λW v hr=>by
        refine⟨_,hr,⟨L6,λq hq=>?_⟩,λq hq=>?_,N⟩
        ·obtain⟨p,hp,s,hs,rfl⟩:=q1n hq;have h1:=(s6.2 p hp);have h2:=D8.out p hp;have h3:=xE s 5 λy hy=>by have:=(x1 s hs).2 y hy;omega
         refine⟨λr hr=>?_,Nat.or_lt_two_pow (n:=5) h1.2.1 h3,by simp[QV];omega⟩;rcases qku.1 hr with h | h
         ·exact h1.1 r h
         ·rw[ql4.1 h];exact hs
        ·obtain⟨p,hp,s,hs,rfl⟩:=q1n hq;have h2:=D8.out p hp;simp[QV];omega
       have K2:=N0 wr u11 g7.recs;obtain⟨xb,xc,hx,-⟩:=g7.recs;have U7:(jy S u).length≠0:=λh=>C2 (qja h);generalize (jy S u).length=xl at hx U7;subst hx;have R0:=qhp K2;have hxz:((xl:Int) == 0)=false:=by rw[beq_eq_false_iff_ne];omega
       clear K2 N0 N g7 C2;go_wp2;exact⟨⟨⟨n,by omega,R0⟩,HG.t t5⟩,Nat.lt_of_le_of_lt (q40 (by omega) R0) (by rw[<- X7];omega)⟩
end
section
open Go Go.RowKit Go.Co
def yQ{n:Int}(h:0<=n/\n<=30):YOk (zh n) 6:=⟨by simp[zh],λp a=>by
 simp only[zh,qjr,qjG,or_false] at a;rcases a with rfl | rfl | rfl | rfl<;>(dsimp only;omega),by omega,by omega⟩
def vF(n:Int):(zh n).length=4:=rfl
def q3o(n:Int):∀(x:List Int),(∀y∈x,0<=y/\y<4)->∀a:Int,(x.map (yA (zh n))).foldl (·+·) a=a+(2*(x.count 0:Int)+2*(x.count 1:Int)+(x.count 2:Int)+(x.count 3:Int))
 | [],_,a=>by simp
 | y::t,h,a=>by
  have b:=q3o n t (λz c=>h z (by simp[c]));have d:=h y (by simp);simp only[qll,qln];rw[b];obtain rfl | rfl | rfl | rfl:y=0\/y=1\/y=2\/y=3:=by omega
  all_goals simp[qq9,yA,zh];try omega
def J1{x:List Int}(h:x.Nodup)(a:Int):x.count a<=1:=by
 induction x with
 | nil=>simp
 | cons y t b=>
  rw[List.nodup_cons] at h;rw[qq9];by_cases e:y=a
  ·subst e;have:=List.count_eq_zero.2 h.1;simp[this]
  ·simp[e];exact b h.2
def Yw{n:Int}(x:List Int)(a:x.Nodup)(d:∀y∈x,0<=y/\y<(zh n).length):POk (zh n) 6 x:=by
 have e:∀y∈x,0<=y/\y<4:=λy c=>by have:=d y c;rw[vF] at this;omega
 have i:=q3o n x e 0;have o:=J1 a 0;have l:=J1 a 1;have k:=J1 a 2;have j:=J1 a 3;refine⟨d,a,?_,?_⟩
 ·unfold qS;rw[i];omega
 ·have b:∀(x:List Int),(∀y∈x,0<=y/\y<4)->x.length=x.count 0+x.count 1+x.count 2+x.count 3:=by
   intro x;induction x with
   | nil=>simp
   | cons y t f=>
    intro h;have:=f (λz g=>h z (by simp[g]));have c:=h y (by simp);obtain rfl | rfl | rfl | rfl:y=0\/y=1\/y=2\/y=3:=by omega
    all_goals simp[qq9];omega
  have:=b x e;omega
def Yo(n:Int):POk (zh n) 6 [0,1,2]:=Yw _ (by decide) (by simp[vF])
def qdn(n:Int):POk (zh n) 6 [2,1,0]:=Yw _ (by decide) (by simp[vF])
def qc7:yJ (zh 12) [0,1,2]=[(6,9),(2,3),(0,0)]:=by kernel_rfl
def q9k:jg (zh 8) [0,1,2]=3:=by kernel_rfl
def qc6:Zk (zh 8) [0,1,2]=.tuple #[.agg #[.int .i64 (-1),.int .i64 2],.int .i64 0]:=by kernel_rfl
def qe4:q1m (zh 12) 6 3 10 [zX [2,1,0]] [zX [2,1,0]] 0=some (some (3,[0,1,2])):=by kernel_rfl
def qe3:(jH (zh 12) 6 (jZ (qO (zh 12).length) 0)).2=[0,1,2]:=by kernel_rfl
def q9m:vR (zh 8) (jZ (qO (zh 8).length) 0)=[[0],[1],[2],[3],[0,1],[0,2],[0,3],[1,2],[1,3]]:=by kernel_rfl
def exS:List (List Int):=[[0],[1],[2],[3],[0,1],[0,2],[0,3],[1,2],[1,3]]
def qfE:qbG 10 (zL exS.length exS) (zj (qO (zh 8).length)) [([],0)]=some (some [[0,2],[1,3]]):=by kernel_rfl
def q9l:∀s∈zL exS.length exS,s≠[]/\∀x∈s,0<=x/\x<5:=by decide
def KA(a:List Par)(l b:List Int):Bool:=(qil (q6B a b)).any λi=>qx a (ovr (q0r a b i) (pre Par.mn a a.length) b b.length) l && !qx a (ovr (q0r a b i) (pre Par.mx a a.length) b b.length) l
def q4G(d:List Par)(l c:List Int):KA d l c=true↔Js d l c:=by
 unfold KA Js;rw[List.any_eq_true];constructor
 ·rintro⟨i,b,a⟩;exact⟨i,qjC.1 b,a⟩
 ·rintro⟨i,b,a⟩;exact⟨i,qjC.2 b,a⟩
def qam(a:List Par)(l c:List Int):ko a l c=!KA a l c:=q3r (q4G a l c)
def qc5:jl (ko (zh 8) [0,1,2]) (jZ [0,1,2] 0) []=(true,[1,2]):=by
 have e:ko (zh 8) [0,1,2]=λc=>!KA (zh 8) [0,1,2] c:=funext λc=>qam _ _ _;have h:jl (λc=>!KA (zh 8) [0,1,2] c) (jZ [0,1,2] 0) []=(true,[1,2]):=by kernel_rfl
 exact(congrArg (λp=>jl p (jZ [0,1,2] 0) []) e).t h
end
section
open Go.RowKit
def yy(n:Int)(w:qhr):qis Ya 80 #[.int .i64 n] w λe x=>∃v,e=.returned (.agg #[v,.int .i64 6])/\w.gb x none/\qr w.heap.size x.heap.size x v (zh n)/\∀(G:qiG) (m c:Nat),v=.slice (some G) m c->∃d e f,x.heap[G.block]?=some (.cells d e f)/\∀(i:Nat) u,d[i]?=some u->∃k m,u=.int k m:=by
 obtain⟨A,y⟩:∃A,A=w.heap.size:=⟨_,rfl⟩;obtain⟨s,l⟩:∃s,s=w.alloc (.cells #[.slice none 0 0,.int .i64 0] 24):=⟨_,rfl⟩;have M:s.heap[A]?=some (.cells #[.slice none 0 0,.int .i64 0] 24 (0,0)):=by rw[l,y];exact qhA w _
 have N:w.gb s none:=by rw[l];exact qhq _ _ none
 have⟨P,H,b,O⟩:=j8 y l M N;clear y l M N;go_enter Tp.x80,Tryz.ntmps80;go_upto_region 1 with(fail);rw[<- P,<- H];have g:=qhp (qhD s none);have R:=q8 (o:=0) b rfl;have Q:=q8 (o:=1) b rfl;have U:=qn (o:=0) b;have f1:=qn (o:=1) b;have F:=(qhs.1 b).1;go_wp2_with (go_at_call 39;refine(q68 _ _ _ _ _).mono ?_;rintro e a ⟨rfl,L⟩;replace g:=qhp (g.t L);replace R:=q8 (o:=0) (bk g b) rfl;replace Q:=q8 (o:=1) (bk g b) rfl;replace U:=qn (o:=0) (bk g b);replace f1:=qn (o:=1) (bk g b);replace F:=(qhs.1 (bk g b)).1;clear L);obtain⟨d,q⟩:∃d:Array qhu,d=#[.int .i64 8,.int .i64 10,.int .i64 n,.int .i64 2,.int .i64 4,.int .i64 6,.int .i64 6,.int .i64 2,.int .i64 2,.int .i64 3,.int .i64 3,.int .i64 1,.int .i64 5,.int .i64 5,.int .i64 0,.int .i64 1]:=⟨_,rfl⟩;obtain⟨W,p⟩:∃W,W=((a.setCell ⟨A,0,none⟩ (.slice (some ⟨a.heap.size,0,none⟩) 4 4)).setCell ⟨A,1,none⟩ (.int .i64 6)).alloc (.cells d 28):=⟨_,rfl⟩;have S:((a.setCell ⟨A,0,none⟩ (.slice (some ⟨a.heap.size,0,none⟩) 4 4)).setCell ⟨A,1,none⟩ (.int .i64 6)).heap.size=a.heap.size:=by simp[qk2]
 have C:W.heap[A]?=some (.cells #[.slice (some ⟨a.heap.size,0,none⟩) 4 4,.int .i64 6] 24 (0,0)):=by rw[p];exact qq (by rw[qi (qi (bk g b))];rfl)
 have r:W.heap[a.heap.size]?=some (.cells d 28 (0,0)):=by
  have:=qhA ((a.setCell ⟨A,0,none⟩ (.slice (some ⟨a.heap.size,0,none⟩) 4 4)).setCell ⟨A,1,none⟩ (.int .i64 6)) (.cells d 28);rw[S,<- p] at this;exact this
 have y:=P.out;have D:w.gb W none:=((O.t g).andThen (row':=some A) ((qh _ _ _ _).t (qh _ _ _ _)) (by rintro j e;cases e;exact .inl (by omega))).t (by rw[p];exact qhq _ _ _);have z:=(O.t g).size;have B:a.heap.size<W.heap.size:=(qhs.1 r).1;rw[<- q,<- p];refine qka (v:=.agg #[.slice (some ⟨a.heap.size,0,none⟩) 4 4,.int .i64 6]) (by simp[qke,Tryz.results80,go_sem,qiq,C]) rfl ⟨_,rfl,D,⟨some ⟨a.heap.size,0,none⟩,4,rfl,by simp[zh],λ_=>⟨a.heap.size,0,d,_,rfl,z,B,r,λi T=>?_⟩⟩,λG m c e=>?_⟩;rotate_left
 ·cases e;refine⟨d,_,_,r,λi u I=>?_⟩;rw[q] at I;have hm:=qjB I;simp only[qlb,qjr,qjG,or_false] at hm;rcases hm with h | h | h | h | h | h | h | h | h | h | h | h | h | h | h | h<;>exact⟨_,_,h⟩
 obtain rfl | rfl | rfl | rfl:i=0\/i=1\/i=2\/i=3:=by simp[zh] at T;omega
 all_goals
  rw[q];exact⟨_,rfl,rfl,rfl,rfl,rfl⟩
end
section
open Go Go.RowKit Go.Co Go.Sim Go.Conc Go.ConcN
def ZR{w:qhr}{B:Nat}{a:Array qhu}{b:Nat × Nat}(l:List Int)(h:w.heap[B]?=some (.cells a 3 b))(e:a=(l.map (qid .i64)).toArray)(c:(l.length:Int)<=1000000):qg 0 w.heap.size w (.slice (some B) l.length l.length) l :=
 ⟨_,_,rfl,c,λ_=>⟨B,0,a,b,rfl,qiu _,qA h,h,λi d=>by rw[e];simp[d]⟩⟩
def jL(w:qhr){a:Array qhu}(l:List Int)(c:a=(l.map (qid .i64)).toArray)(b:(l.length:Int)<=1000000):qg 0 (w.alloc (.cells a 3)).heap.size (w.alloc (.cells a 3)) (.slice (some w.heap.size) l.length l.length) l:=ZR l (qhA w _) c b
def qg.kn{w u:qhr}{T:Nat->qk5->Nat}{v:qhu}{l:List Int}(h:qg 0 w.heap.size w v l)(a:(w.tp T).gb u none):qg 0 u.heap.size u v l:=(qg.kept (w:=w.tp T) h a (by simp)).mono (qhv _) a.size
def qK.kn{w u:qhr}{T:Nat->qk5->Nat}{v:qhu}{l:List (Int × Int)}(h:qK 0 w.heap.size w v l)(a:(w.tp T).gb u none):qK 0 u.heap.size u v l:=(qK.kept (w:=w.tp T) h a (by simp)).mono (qhv _) a.size
def RowsIn.kn{w u:qhr}{T:Nat->qk5->Nat}{v:qhu}{l:List (List Int)}(h:RowsIn 0 w.heap.size w v l)(a:(w.tp T).gb u none):RowsIn 0 u.heap.size u v l:=(RowsIn.kept (w:=w.tp T) h a (by simp)).mono (qhv _) a.size
def q7A{ps:List Par}{m:Nat}(hm:1<=m)(b:∀p∈ps,kOf p<=m):∀(a:List Int) (L:List (Nat->Int)),(a.foldl (vp ps) L).length<=L.length*m ^ a.length
 | [],L=>by simp
 | x::a,L=>by
  have c:=q7A hm b a (vp ps L x);have e:(vp ps L x).length<=L.length*m:=by
   unfold vp;split
   ·rename_i p d
    rw[vL];exact Nat.mul_le_mul_left _ (b p (qi9 d))
   ·exact Nat.le_mul_of_pos_right _ hm
  rw[qln,qhE,Nat.pow_succ];refine qhB c (qhB (Nat.mul_le_mul_right _ e) ?_);rw[Nat.mul_assoc,Nat.mul_comm m];exact qhv _
def qe8{ps:List Par}{b:Int}(h:YOk ps b){l a:List Int}(g:∀y∈l,0<=y/\y<ps.length)(e:l.length<=1000)(c:∀y∈a,0<=y/\y<ps.length)(k:a.length<=5):qcD ps l a:=by
 refine⟨h.len,λp d=>?_,g,e,c,by omega,λj n=>?_⟩
 ·have:=h.each p d;omega
 ·have i:=q7A (ps:=ps) (m:=12) (by omega) (λp d=>by have:=h.each p d;unfold kOf;omega) (a.take j) [λ_=>0];have o:12 ^ (a.take j).length<=12 ^ 5:=Nat.pow_le_pow_right (by omega) (by rw[qky];omega);unfold yZ;simp only[qhE,qi1,qi6,Nat.one_mul] at i;omega
def q8F{w:qhr}{B:Nat}{a:Array qhu}{c:Nat × Nat}(h:w.heap[B]?=some (.cells a 26 c))(d:a=#[.int .i64 6,.int .i64 9,.int .i64 2,.int .i64 3,.int .i64 0,.int .i64 0]):qK 0 w.heap.size w (.slice (some B) 3 3) [(6,9),(2,3),(0,0)]:=by
 refine⟨_,_,rfl,by decide,λ_=>⟨B,0,a,c,rfl,qiu _,qA h,h,λi b=>?_⟩⟩;subst d;have b:i<3:=b;obtain rfl | rfl | rfl:i=0\/i=1\/i=2:=by omega
 all_goals exact⟨_,rfl,rfl,rfl⟩
def qbq{w:qhr}{B A1 A2:Nat}{fr:Nat × Nat}(h:w.heap[B]?=some (.cells #[.slice (some A1) 2 2,.slice (some A2) 2 2] 29 fr))(c:qg 0 w.heap.size w (.slice (some A1) 2 2) [0,2])(b:qg 0 w.heap.size w (.slice (some A2) 2 2) [1,3]):RowsIn 0 w.heap.size w (.slice (some B) 2 2) [[0,2],[1,3]]:=by
 refine⟨_,_,rfl,by decide,λ_=>⟨B,0,_,fr,rfl,qiu _,qA h,h,λi a=>?_⟩⟩;have a:i<2:=a;obtain rfl | rfl:i=0\/i=1:=by omega
 ·exact⟨_,_,rfl,rfl,c⟩
 ·exact⟨_,_,rfl,rfl,b⟩
def q6F(w:qhr):RowsIn 0 (((w.alloc (.cells #[.int .i64 0,.int .i64 2] 3)).alloc (.cells #[.int .i64 1,.int .i64 3] 3)).alloc (.cells #[.slice (some w.heap.size) 2 2,.slice (some (w.heap.size+1:Nat)) 2 2] 29)).heap.size (((w.alloc (.cells #[.int .i64 0,.int .i64 2] 3)).alloc (.cells #[.int .i64 1,.int .i64 3] 3)).alloc (.cells #[.slice (some w.heap.size) 2 2,.slice (some (w.heap.size+1:Nat)) 2 2] 29)) (.slice (some (w.heap.size+2:Nat)) 2 2) [[0,2],[1,3]]:=by
 refine qbq (A1:=w.heap.size) (A2:=w.heap.size+1) (fr:=(0,0)) ?_ ?_ ?_
 ·have h:=qhA ((w.alloc (.cells #[.int .i64 0,.int .i64 2] 3)).alloc (.cells #[.int .i64 1,.int .i64 3] 3)) (.cells #[.slice (some w.heap.size) 2 2,.slice (some (w.heap.size+1:Nat)) 2 2] 29);rw[qhH,qhH] at h;exact h
 ·exact ZR [0,2] (qq (qq (qhA w _))) rfl (by decide)
 ·have h:=qhA (w.alloc (.cells #[.int .i64 0,.int .i64 2] 3)) (.cells #[.int .i64 1,.int .i64 3] 3);rw[qhH] at h;exact ZR [1,3] (qq h) rfl (by decide)
def kR[JunkSet]{f:qj8}{Post:qhu->qhr->Prop}{W:qhr}{g:qhw}{w:qhr}(F:qhr->Prop)(a:F w)(h:∀u,F u->EL Ya qi2 f Post W g u):EL Ya qi2 f Post W g w:=h w a
section
variable[J:JunkSet]{f:qj8}{Post:qhu->qhr->Prop}{W:qhr}
def qh2(D:Two Ya qi2)(h8:JunkSet.okf 137)(h9:∀i,¬ JunkSet.jk i)(k0:Ya.inits.idxOf? f=none)(k6:∃g,Ya.funcs[f]?=some g/\Tryz.prog.funcs[f]?=some g){wq:qhr}(h0:qX wq 0) :EC Ya qi2 f Post W 23 #[] wq λv u=>v=.bool true/\(wq.tp u.tape).gb u none:=by
 have z:Ya.funcs[(qij 23).fn]?=Tryz.prog.funcs[(qij 23).fn]?:=zd 23 (by decide);refine EC.of_body1 D (fn:=Tryz.f23) (c0:=Tryz.f23.body.getD .skip) (t:=0) Tp.x23 Tryz.func23 (by kernel_rfl) rfl λcs A N=>?_;have HR:=qhp N;clear N;simp only[Tryz.f23,qhC];walk_nrm;refine EL.sp D A z λT=>?_;go_wp2;refine EL.tape (wq:=wq) ?_ T;refine EL.sp D A z λT=>?_;go_wp2_with (first
  | (go_at_call 80;refine(yy 12 _).mono ?_;rintro e L ⟨V,rfl,d,a,b⟩;have r:=qhp d;have p:=qhp a;have C:=qhp b;obtain⟨I,H,rfl,-,-⟩:=a.cell;clear d a b)
  | (go_at_call 35;refine(q8D 0 _ _ _ (zh 12) 6 [0,1,2] _ ((p.kept (qhq _ _ none)).mono (qiu _) (by rw[qhH];omega)) (jL _ [0,1,2] rfl (by decide)) (qhv _) (yQ (by omega)) (Yo 12)).mono ?_;rintro e P ⟨Q,rfl,k,U⟩;rw[qc7] at U;have x:=qhp k;have B3:=qhp U;clear k U))
 have j:=r.out.t ((qhq _ _ none).t x);refine kR (λu=>(wq.tp u.tape).gb u none/\qK 0 u.heap.size u Q [(6,9),(2,3),(0,0)]) ⟨tpg j,B3.mono (qiu _) (qhv _)⟩ λu1 G=>?_;obtain⟨g1,bA⟩:=G;clear j B3 x r p C;refine EL.sp D A z λT=>?_;go_wp2_with (first
  | (go_at_call 80;refine(yy 8 _).mono ?_;rintro e L ⟨V,rfl,d,a,b⟩;have r:=qhp d;have p:=qhp a;have C:=qhp b;obtain⟨I,H,rfl,-,-⟩:=a.cell;clear d a b)
  | (go_at_call 37;refine(q8c 0 _ _ _ (zh 8) 6 [0,1,2] _ ((p.kept (qhq _ _ none)).mono (qiu _) (by rw[qhH];omega)) (jL _ [0,1,2] rfl (by decide)) (qhv _) (yQ (by omega)) (Yo 8)).mono ?_;rintro e P ⟨rfl,k⟩;rw[q9k];have x:=qhp k;clear k))
 have j:=r.out.t ((qhq _ _ none).t x);refine kR (λu=>(wq.tp u.tape).gb u none/\qK 0 u.heap.size u Q [(6,9),(2,3),(0,0)]) ⟨gb g1 (tpg j),bA.kn j⟩ λu2 G=>?_;obtain⟨g2,d9⟩:=G;clear j x r p C g1 bA;refine EL.sp D A z λT=>?_;go_wp2_with (first
  | (go_at_call 80;refine(yy 8 _).mono ?_;rintro e L ⟨V,rfl,d,a,b⟩;have r:=qhp d;have p:=qhp a;have C:=qhp b;obtain⟨I,H,rfl,-,-⟩:=a.cell;clear d a b)
  | (go_at_call 36;refine(q8j 0 _ _ _ (zh 8) 6 [0,1,2] _ ((p.kept (qhq _ _ none)).mono (qiu _) (by rw[qhH];omega)) (jL _ [0,1,2] rfl (by decide)) (qhv _) (yQ (by omega)) (Yo 8)).mono ?_;rintro e P ⟨rfl,k⟩;rw[qc6];have x:=qhp k;clear k))
 obtain⟨X,hX⟩:∃X,X=P.heap.size:=⟨_,rfl⟩;rw[<- hX];have j:=(r.t ((qhq _ _ none).t x)).t (qhq P (.cells #[.int .i64 (-1),.int .i64 2] 26) none);refine kR (λu=>(wq.tp u.tape).gb u none/\qK 0 u.heap.size u Q [(6,9),(2,3),(0,0)]/\u.heap[X]?=some (.cells #[.int .i64 (-1),.int .i64 2] 26 (0,0))) ⟨gb g2 (tpg j),d9.kn j,by rw[hX];exact qhA _ _⟩ λu3 G=>?_;obtain⟨g3,d8,x3⟩:=G;clear j x r p C g2 d9 hX;refine EL.seq D A z ?_;refine EL.region D A z ?_;simp only[qim,qhE,qi1,qib,qi6,qil,qj2];refine EL.list D A z [0,1] [_,_] (rest:=[2,3,4,5,6,7]) rfl λT=>?_;go_wp2_with (go_at_call 80;refine(yy 8 _).mono ?_;rintro e L ⟨V,rfl,d,a,b⟩;have r:=qhp d;have p:=qhp a;have C:=qhp b;obtain⟨I,H,rfl,-,-⟩:=a.cell;clear d a b);obtain⟨B,hB⟩:∃B,B=L.heap.size:=⟨_,rfl⟩;rw[<- hB];have j:=r.out.t (qhq L (.cells #[.int .i64 0,.int .i64 1,.int .i64 2] 3) none);have S:(L.alloc (.cells #[.int .i64 0,.int .i64 1,.int .i64 2] 3)).heap[B]?=some (.cells #[.int .i64 0,.int .i64 1,.int .i64 2] 3 (0,0)):=by rw[hB];exact qhA _ _
 refine kR (λu=>((wq.tp u.tape).gb u none/\qK 0 u.heap.size u Q [(6,9),(2,3),(0,0)]/\u.heap[X]?=some (.cells #[.int .i64 (-1),.int .i64 2] 26 (0,0)))/\qr 0 u.heap.size u (.slice I (zh 8).length H) (zh 8)/\qU u (.slice I (zh 8).length H)/\qg 0 u.heap.size u (.slice (some B) ([0,1,2]:List Int).length 3) [0,1,2]/\qU u (.slice (some B) ([0,1,2]:List Int).length 3))
  ⟨⟨gb g3 (tpg j),d8.kn j,bk j x3⟩,(p.kept (qhq _ _ none)).mono (qiu _) (by rw[qhH];omega),λad n c e=>by
   have⟨cs,e1,f1,h1,h2⟩:=C.out ad n c e;exact⟨cs,e1,f1,qq h1,h2⟩,ZR [0,1,2] S rfl (by decide),λad n c e=>by
   cases e;refine⟨_,_,_,S,λi u hu=>?_⟩;have hm:=qjB hu;simp only[qlb,qjr,qjG,or_false] at hm;rcases hm with h | h | h<;>exact⟨_,_,h⟩⟩ λu4 G=>?_
 obtain⟨⟨g4,d7,x4⟩,p4,Z,i4,a6⟩:=G;clear j S hB r p C g3 d8 x3;refine EL.enter D A z (fk:=29) (args:=#[.agg #[.slice I (zh 8).length H,.int .i64 6],.slice (some B) 3 3]) rfl rfl (λT=>by rw[qne (f:=29) rfl Tp.x29 (by kernel_rfl) rfl];walk_nrm) (zd 29 (by decide)) ?_;refine el29 D h8 h9 k0 k6 (ws:=[0,1,2]) (l:=[0,1,2]) (by decide) (λc hc hl=>qe8 (yQ (by omega)) (by simp[vF]) (by decide) (λy hy=>by have:=hc y hy;simp at this;rw[vF];omega) (by simp at hl;omega)) (vQ (by decide) (by decide)) (yQ (by omega)) (Yo 8) p4 Z i4 a6 ?_ _ cs A z λv u hR=>?_
 ·obtain⟨cs,e,g,h0,k5⟩:=h0;exact⟨cs,e,g,blk (w:=wq.tp u4.tape) g4 (by simp) h0,k5⟩
 obtain⟨o,s,rfl,⟨bo,R⟩,M,a8⟩:=hR;rw[qc5] at R;obtain⟨rfl,rfl⟩:=Prod.mk.inj R;have g5:=gb g4 M;have d6:=d7.kn M;have x5:=blk (w:=u4.tp u.tape) M (by simp) x4;clear g4 d7 x4 p4 Z i4 a6 R M;rw[qkj];walk_nrm;refine EL.list D A z [3,4,5,6,7] [_,_,_,_,_] (rest:=[]) rfl λT=>?_;go_wp2;refine EL.tape (wq:=u) ?_ T;refine EL.region_end D A z ?_;refine EL.sp D A z λT=>?_;go_wp2_with (first
  | (go_at_call 80;refine(yy 12 _).mono ?_;rintro e L ⟨V,rfl,d,a,b⟩;have r:=qhp d;have p:=qhp a;have C:=qhp b;obtain⟨I,H,rfl,-,-⟩:=a.cell;clear d a b)
  | (go_at_call 54;refine(qdu _ _ (zh 12) 6 [2,1,0] _ ((p.kept (qhq _ _ none)).mono (qiu _) (by rw[qhH];omega)) (jL _ [2,1,0] rfl (by decide)) (yQ (by omega)) (qdn 12) 10 (by decide) (some (3,[0,1,2])) qe4).mono ?_;rintro e P ⟨k,v7,rfl,a7⟩;have x:=qhp k;have I7:=qhp a7;clear k a7))
 have j:=r.out.t ((qhq _ _ none).t x);refine kR (λq=>(wq.tp q.tape).gb q none/\qK 0 q.heap.size q Q [(6,9),(2,3),(0,0)]/\q.heap[X]?=some (.cells #[.int .i64 (-1),.int .i64 2] 26 (0,0))/\qg 0 q.heap.size q s [1,2]/\qg 0 q.heap.size q v7 [0,1,2]) ⟨gb g5 (tpg j),d6.kn j,bk j x5,a8.kn j,I7⟩ λu6 G=>?_;obtain⟨g6,d5,x6,s6,m6⟩:=G;clear j x r p C I7 g5 d6 x5 a8;refine EL.sp D A z λT=>?_;go_wp2_with (first
  | (go_at_call 80;refine(yy 8 _).mono ?_;rintro e L ⟨V,rfl,d,a,b⟩;have r:=qhp d;have p:=qhp a;have C:=qhp b;obtain⟨I,H,rfl,-,-⟩:=a.cell;clear d a b)
  | (go_at_call 63;refine(q9g _ (zh 8) 6 _ (p.mono (qiu _) (qhv _)) (yQ (by omega)) Yw (by decide) (by decide) exS q9m.symm (by decide) (by decide) q9l 10 (by decide) [[0,2],[1,3]] qfE).mono ?_;rintro e P ⟨v9,rfl,k,F⟩;have x:=qhp k;have O:=qhp F;clear k F))
 have j:=r.out.t x;refine kR (λq=>(wq.tp q.tape).gb q none/\qK 0 q.heap.size q Q [(6,9),(2,3),(0,0)]/\q.heap[X]?=some (.cells #[.int .i64 (-1),.int .i64 2] 26 (0,0))/\qg 0 q.heap.size q s [1,2]/\qg 0 q.heap.size q v7 [0,1,2]/\RowsIn 0 q.heap.size q v9 [[0,2],[1,3]]) ⟨gb g6 (tpg j),d5.kn j,bk j x6,s6.kn j,m6.kn j,O⟩ λu7 G=>?_;obtain⟨g7,c9,x7,s7,m7,r7⟩:=G;clear j x r p C O g6 d5 x6 s6 m6;refine EL.sp D A z λT=>?_;go_wp2_with (first
  | (go_at_call 80;refine(yy 12 _).mono ?_;rintro e L ⟨V,rfl,d,a,b⟩;have r:=qhp d;have p:=qhp a;have C:=qhp b;obtain⟨I,H,rfl,-,-⟩:=a.cell;clear d a b)
  | (go_at_call 44;refine(q4c _ (zh 12) 6 _ (p.mono (qiu _) (qhv _)) (yQ (by omega))).mono ?_;rintro e P ⟨e9,rfl,k,F⟩;rw[qe3] at F;have x:=qhp k;have O:=qhp F;clear k F))
 have j:=r.out.t x;refine kR (λq=>(wq.tp q.tape).gb q none/\qK 0 q.heap.size q Q [(6,9),(2,3),(0,0)]/\q.heap[X]?=some (.cells #[.int .i64 (-1),.int .i64 2] 26 (0,0))/\qg 0 q.heap.size q s [1,2]/\qg 0 q.heap.size q v7 [0,1,2]/\RowsIn 0 q.heap.size q v9 [[0,2],[1,3]]/\qg 0 q.heap.size q e9 [0,1,2]) ⟨gb g7 (tpg j),c9.kn j,bk j x7,s7.kn j,m7.kn j,r7.kn j,O⟩ λu8 G=>?_;obtain⟨g8,c8,x8,s8,m8,r8,o8⟩:=G;clear j x r p C O g7 c9 x7 s7 m7 r7;refine EL.sp D A z λT=>?_;have GA:=qhp (qhD (u8.tp T) none);have c0:=q8 (w:=u8.tp T) x8 (o:=0) rfl;have c1:=q8 (w:=u8.tp T) x8 (o:=1) rfl;have v5:=λ(w:qhr)=>qcs (-1) 2 (-1) 2 w;have v4:=KR;go_wp2_with (fail);refine(q0d 0 _ 0 _ _ _ [(6,9),(2,3),(0,0)] [(6,9),(2,3),(0,0)] _ (qK.kept (w:=u8.tp T) c8 (qhq (u8.tp T) _ none) (by simp)) (q8F (qhA _ _) rfl)).mono ?_;rintro e wA ⟨rfl,b8⟩;have Y:=(qhq (u8.tp T) _ none).t b8;have GA:=qhp Y;have S8:=qhp (s8.kn Y);have M8:=qhp (m8.kn Y);have R8:=qhp (r8.kn Y);have O8:=qhp (o8.kn Y);clear Y b8 c0 c1 s8 m8 r8 o8 c8;rw[decide_eq_true (show([(6,9),(2,3),(0,0)]:List (Int × Int))=[(6,9),(2,3),(0,0)] from rfl)];go_wp2_with (fail);refine(yj 0 _ 0 _ _ _ [1,2] [1,2] _ (S8.alloc _) (jL _ [1,2] rfl (by decide))).mono ?_;rintro e wB ⟨rfl,b7⟩;have gB:=(qhq wA _ none).t b7;have GB:=qhp (GA.t gB);have M9:=qhp (M8.kn (T:=wA.tape) gB);have O:=qhp (R8.kn (T:=wA.tape) gB);have O9:=qhp (O8.kn (T:=wA.tape) gB);clear gB b7 GA S8 M8 R8 O8;rw[decide_eq_true (show([1,2]:List Int)=[1,2] from rfl)];go_wp2_with (fail);refine(yj 0 _ 0 _ _ _ [0,1,2] [0,1,2] _ (M9.alloc _) (jL _ [0,1,2] rfl (by decide))).mono ?_;rintro e wC ⟨rfl,b6⟩;have gC:=(qhq wB _ none).t b6;have GC:=qhp (GB.t gC);have RC:=qhp (O.kn (T:=wB.tape) gC);have OC:=qhp (O9.kn (T:=wB.tape) gC);clear gC b6 GB M9 O O9;rw[decide_eq_true (show([0,1,2]:List Int)=[0,1,2] from rfl)];go_wp2_with (fail);refine(q2s 0 _ 0 _ _ _ [[0,2],[1,3]] [[0,2],[1,3]] _ (RC.kept ((qhq _ _ none).t ((qhq _ _ none).t (qhq _ _ none)))) (q6F wC)).mono ?_;rintro e wD ⟨rfl,b0⟩;have gD:=((qhq wC _ none).t ((qhq _ _ none).t (qhq _ _ none))).t b0;have GD:=qhp (GC.t gD);have OD:=qhp (OC.kn (T:=wC.tape) gD);clear gD b0 GC RC OC;rw[decide_eq_true (show([[0,2],[1,3]]:List (List Int))=[[0,2],[1,3]] from rfl)];go_wp2_with (fail);refine(yj 0 _ 0 _ _ _ [0,1,2] [0,1,2] _ (OD.alloc _) (jL _ [0,1,2] rfl (by decide))).mono ?_;rintro e wE ⟨rfl,a9⟩;have gE:=GD.out.t ((qhq wD _ none).t a9);have GE:=qhp gE;clear gE a9 GD OD;rw[decide_eq_true (show([0,1,2]:List Int)=[0,1,2] from rfl)];go_wp2;refine kR (λq=>(wq.tp q.tape).gb q none) (gb g8 (tpg GE)) λu9 g9=>?_;refine EL.retS D A z ?_;exact HR _ _ u9 ⟨rfl,g9⟩
end
end
section
open Go Go.RowKit Go.Co Go.Sim Go.Conc Go.ConcN
def q91{f:qj8}{fn:Func}{c0:qkh}{a:Array qhu}(c:Ya.funcs[f]?=some fn)(b:fn.body=some c0) :qiz Ya f a .normal=(qij f).at ⟨a++qiE (fn.ntmps - a.size) qhx,[]⟩ [.code c0]:=by
 simp[qiz,c,b,Frame.at,qij]
section
variable[J:JunkSet]{Post:qhu->qhr->Prop}{W:qhr}
end
end
section
open Go Go.RowKit

end
section
open Go.RowKit
def qT(b c:Nat)(w:qhr)(v:qhu)(l:List Int):Prop :=
 ∃base a,v=.slice base l.length a/\(l.length:Int)<=1000000 /\
  (l≠[]->∃B o,base=some ⟨B,o,none⟩/\b<=B/\B<c/\B<w.heap.size/\∀i,i<l.length->w.cell? ⟨B,o+i,none⟩=some (.int .i64 (l[i]?.getD 0)))
def qg.g{a b:Nat}{w:qhr}{v:qhu}{l:List Int}(h:qg a b w v l):qT a b w v l:=h.cell
def qT.cell{b c:Nat}{w:qhr}{v:qhu}{l:List Int}(h:qT b c w v l):∃base a,v=.slice base l.length a/\(l.length:Int)<=1000000 /\(l≠[]->∃B o,base=some ⟨B,o,none⟩/\b<=B/\B<c/\B<w.heap.size/\∀i,i<l.length->w.cell? ⟨B,o+i,none⟩=some (.int .i64 (l[i]?.getD 0))):=h
def qT.kept{d a:Nat}{w w':qhr}{v:qhu}{l:List Int}{row:Option Nat}(h:qT d a w v l)(g:w.gb w' row)(j:∀R,row=some R->R<d\/a<=R:=by simp):qT d a w' v l:=by
 obtain⟨b,c,rfl,k,t⟩:=h;refine⟨b,c,rfl,k,λf=>?_⟩;obtain⟨B,o,rfl,s,r,q,p⟩:=t f;refine⟨B,o,rfl,s,r,qi0 q g.size,λi a=>g.cell (p i a) (λe=>?_)⟩;have:=j B e.symm;omega
def qT.mono{g i a d:Nat}{w:qhr}{v:qhu}{l:List Int}(h:qT g i w v l)(t:a<=g)(s:i<=d):qT a d w v l:=by
 obtain⟨b,c,rfl,j,p⟩:=h;refine⟨b,c,rfl,j,λf=>?_⟩;have⟨B,o,e,r,q,n,k⟩:=p f;exact⟨B,o,e,by omega,by omega,n,k⟩
def qT.take{j d:Nat}{w:qhr}{b:Option qiG}{c:Nat}{l:List Int}(h:qT j d w (.slice b l.length c) l)(k:Nat)(n:k<=l.length)(p:Nat):qT j d w (.slice b k p) (l.take k):=by
 obtain⟨base,x,e,y,q⟩:=h;injection e with g _ _;subst g;have a:(l.take k).length=k:=by simp;omega
 refine⟨b,p,by rw[a],by rw[a];omega,λf=>?_⟩;have r:0<k:=Nat.pos_of_ne_zero λe=>f (by rw[e];rfl);have⟨B,o,g,v,u,t,s⟩:=q (by intro e;rw[e] at n;simp at n;omega);refine⟨B,o,g,v,u,t,λi d=>?_⟩;rw[a] at d;rw[s i (by omega),qk4 d]
def zi(c d:Nat)(w:qhr)(v:qhu)(a:List Par):Prop :=
 ∃base b,v=.slice base a.length b/\(a.length:Int)<=1000000 /\
  (a≠[]->∃B o,base=some ⟨B,o,none⟩/\c<=B/\B<d/\B<w.heap.size/\∀i,i<a.length->∃p,a[i]?=some p/\w.cell? ⟨B,o+i*4,none⟩=some (.int .i64 p.mn)/\w.cell? ⟨B,o+i*4+1,none⟩=some (.int .i64 p.mx)/\w.cell? ⟨B,o+i*4+2,none⟩=some (.int .i64 p.bears)/\w.cell? ⟨B,o+i*4+3,none⟩=some (.int .i64 p.tall))
def qr.g{b c:Nat}{w:qhr}{v:qhu}{a:List Par}(h:qr b c w v a):zi b c w v a:=h.cell
def zi.cell{c d:Nat}{w:qhr}{v:qhu}{a:List Par}(h:zi c d w v a):∃base b,v=.slice base a.length b/\(a.length:Int)<=1000000 /\(a≠[]->∃B o,base=some ⟨B,o,none⟩/\c<=B/\B<d/\B<w.heap.size/\∀i,i<a.length->∃p,a[i]?=some p/\w.cell? ⟨B,o+i*4,none⟩=some (.int .i64 p.mn)/\w.cell? ⟨B,o+i*4+1,none⟩=some (.int .i64 p.mx)/\w.cell? ⟨B,o+i*4+2,none⟩=some (.int .i64 p.bears)/\w.cell? ⟨B,o+i*4+3,none⟩=some (.int .i64 p.tall)):=h
def zi.kept{g a:Nat}{w w':qhr}{v:qhu}{k:List Par}{row:Option Nat}(h:zi g a w v k)(d:w.gb w' row)(l:∀R,row=some R->R<g\/a<=R:=by simp):zi g a w' v k:=by
 obtain⟨b,c,rfl,q,x⟩:=h;refine⟨b,c,rfl,q,λj=>?_⟩;obtain⟨B,o,rfl,u,t,s,r⟩:=x j;have f:some B≠row:=λe=>by have:=l B e.symm;omega
 refine⟨B,o,rfl,u,t,qi0 s d.size,λi a=>?_⟩;have⟨p,D,C,A,z,y⟩:=r i a;exact⟨p,D,d.cell C f,d.cell A f,d.cell z f,d.cell y f⟩
def zi.mono{i j a d:Nat}{w:qhr}{v:qhu}{g:List Par}(h:zi i j w v g)(t:a<=i)(s:j<=d):zi a d w v g:=by
 obtain⟨b,c,rfl,k,p⟩:=h;refine⟨b,c,rfl,k,λf=>?_⟩;have⟨B,o,e,r,q,n,l⟩:=p f;exact⟨B,o,e,by omega,by omega,n,l⟩
def q5e(d e:Nat)(w:qhr)(v:qhu)(c:List Par)(a:Int):Prop:=∃b,v=.agg #[b,a]/\zi d e w b c
end
section
open Go.RowKit
section
variable{P:qhF}
def vK{d:Array qjn}{o:qjn}{a:Act}{w:qhr}{K:Act->qhr->Prop}{Q:Exit->Act->qhr->Prop}{E:Prop}(g:qip o (qjt d a.tmps)=true)(s x:qiy)(t:qi4)(k:o.op=.call { callee:=.builtin .append,args:=#[s,x],argTypes:=#[t,t] })(base:Nat)(e:qi4)(i:qlD)(z:qhu)(size qon:Nat)(ht:P.underlying t=some (.slice e))(hi:P.info? e=some i)(hz:i.zero=some z)(hsize:i.size=size)(hby:i.bytes=qon)(hzs:z.cells.size=size)(hsz:0<size)(v:qhu)(n:Nat)(xs:List qhu)(hs:a.eval s=v)(hown:w.ownsRow base e size v n xs)(ad:qiG)(m c:Nat)(news:List qhu)(hx:a.eval x=.slice (some ad) m c)(hl:news.length=m*size)(hnews:∀j u,news[j]?=some u->w.cell? (ad.add j)=some u)(h1:∀u∈news,u.oneCell'=true)(h63:n+m<=qlg)(hbytes:(n+m)*qon<=140737488355328)(hbase:base<=w.heap.size)(h:∀f b,b.ownsRow base e size f (n+m) (xs++news)->w.gb b v.ownBlock->K (a.put o.dst f) b) :if qip o (qjt d a.tmps)=true then Oper.wp P o a w K Q else E:=by
 rw[if_pos g];exact wp_append_own w s x t k base e i z size qon ht hi hz hsize hby hzs hsz v n xs hs hown ad m c news hx hl hnews h1 h63 hbytes hbase λf b p l _=>h f b p l
end
def q1a(a:List Par):(yU a).length=a.length*4:=by
 induction a with
 | nil=>rfl
 | cons p t b=>unfold yU at b ⊢;rw[qkl,qj1,b];simp[vz];omega
def q8t(c:List Par):∀u∈yU c,u.oneCell'=true:=by
 intro u a;unfold yU at a;obtain⟨p,-,b⟩:=qmE.1 a;simp[vz] at b;rcases b with rfl | rfl | rfl | rfl<;>rfl
def run_append_nil{P:qhF}{t a e:qi4}{i:qlD}{g c:Nat}{w:qhr}(b:P.underlying t=some (.slice e))(d:P.info? e=some i):(ql7 #[t,t] a #[.slice (some g) 0 0,.slice none 0 c]).run P w=.ok (.slice (some g) 0 0) w:=by
 simp[ql7,run_underlying b,sizeOf,qlx,d,Builtin.lenOf,qo3,storeCells]
def qgs{q t:Nat}{w:qhr}{f:qiG}{g:Nat}{c:List Par}(h:zi q t w (.slice (some f) c.length g) c):∀j u,(yU c)[j]?=some u->w.cell? (f.add j)=some u:=λj u d=>by
 have s:j<c.length*4:=by have:=(qi3.1 d).1;rwa [q1a] at this
 obtain⟨_,_,e,-,h⟩:=h;cases e;obtain⟨B,o,e,-,-,-,v⟩:=h (by rintro rfl;simp at s);cases e;have⟨p,r,n,l,k,i⟩:=v (j / 4) (by omega);have a:=q1b c (j / 4) p r (j % 4) (Nat.mod_lt _ (by omega));rw[show j / 4*4+j % 4=j by omega,d] at a;have b:j % 4=0\/j % 4=1\/j % 4=2\/j % 4=3:=by omega
 rcases b with b | b | b | b;all_goals
  rw[b] at a;simp[vz] at a;subst a;refine kf ?_
 ·rw[show o+j=o+j / 4*4 by omega];exact n
 ·rw[show o+j=o+j / 4*4+1 by omega];exact l
 ·rw[show o+j=o+j / 4*4+2 by omega];exact k
 ·rw[show o+j=o+j / 4*4+3 by omega];exact i
def xm{f:Array qjn}{o:qjn}{a:Act}{w:qhr}{K:Act->qhr->Prop}{Q:Exit->Act->qhr->Prop}{E:Prop}(s x:qiy){C G L g n:Nat}{p:Option qiG}{b:List Par}(A:zi C G w (.slice p b.length n) b)(z:w.heap[g]?=some (.cells #[] 28 (0,0)))(I:L<=g)(R:b.length<=1000)(h:∀r q l,l.ownsRow L 28 4 (.slice r b.length q) b.length (yU b)->w.gb l (some g)->K (a.put o.dst (.slice r b.length q)) l)(j:qip o (qjt f a.tmps)=true:=by kernel_rfl)(ho:o.op=.call { callee:=.builtin .append,args:=#[s,x],argTypes:=#[22,22] }:=by rfl)(hs:a.eval s=.slice (some g) 0 0:=by rfl)(hx:a.eval x=.slice p b.length n:=by rfl) :if qip o (qjt f a.tmps)=true then Oper.wp Ya o a w K Q else E:=by
 have⟨D,i,v,u,t⟩:=qjx Tp.info28p;have d:w.ownsRow L 28 4 (.slice (some g) 0 0) 0 []:=⟨rfl,.inr ⟨g,0,#[],rfl,I,z,qhv _,by decide,rfl,rfl⟩⟩;have H:=(qhs.1 z).1;rcases p with _ | O
 ·obtain rfl:b=[]:=qj6 λF=>by obtain⟨_,_,e,-,k⟩:=A;cases e;have⟨_,_,e,_⟩:=k F;cases e
  rw[if_pos j];unfold Oper.wp qkA;simp only[ho,resolve,invoke,builtin,qjo,qmo,qjl,qmc,qll,qmq,hs,hx,qi1,run_append_nil Tp.und22 i];exact h _ _ _ d (qhD _ _)
 ·refine vK j s x 22 ho L 28 D _ 4 32 Tp.und22 i v u t rfl (by decide) _ 0 [] hs d O b.length n (yU b) hx (q1a b) (qgs A) (q8t b) (by unfold qlg;omega) (by omega) (by omega) λB l k M=>?_;obtain⟨r,q,rfl⟩:∃a c,B=.slice a b.length c:=by
   rcases k.2 with⟨rfl,S⟩ | ⟨g,y,N,rfl,_⟩
   ·exact⟨none,0,by rw[show b.length=0 by omega]⟩
   ·exact⟨_,y,by rw[qi6]⟩
  rw[qi6,qii] at k;exact h _ _ _ k M
def YI{b:Array qjn}{o:qjn}{a:Act}{w:qhr}{K:Act->qhr->Prop}{Q:Exit->Act->qhr->Prop}{E:Prop}(s x:qiy){L G n i:Nat}{j:Option qiG}{f:List qhu}{p:Par}(d:w.ownsRow L 28 4 (.slice j n i) n f)(z:w.heap[G]?=some (.cells #[p.mn,p.mx,p.bears,p.tall] 28 (0,0)))(C:n<=1000)(y:L<=w.heap.size)(h:∀g c e,e.ownsRow L 28 4 (.slice (some ⟨g,0,none⟩) (n+1) c) (n+1) (f++vz p)->w.gb e (qjc j n i).ownBlock->K (a.put o.dst (.slice (some ⟨g,0,none⟩) (n+1) c)) e)(t:qip o (qjt b a.tmps)=true:=by kernel_rfl)(ho:o.op=.call { callee:=.builtin .append,args:=#[s,x],argTypes:=#[22,22] }:=by rfl)(hs:a.eval s=.slice j n i:=by rfl)(hx:a.eval x=.slice (some G) 1 1:=by rfl) :if qip o (qjt b a.tmps)=true then Oper.wp Ya o a w K Q else E:=by
 have⟨v,r,q,l,k⟩:=qjx Tp.info28p;refine vK t s x 22 ho L 28 v _ 4 32 Tp.und22 r q l k rfl (by decide) _ n f hs d ⟨G,0,none⟩ 1 1 (vz p) hx rfl (qje z) (by simp[vz,qjD]) (by unfold qlg;omega) (by omega) y λB e u A=>?_;obtain⟨g,c,rfl⟩:=qn6 u;exact h _ _ _ u A
def ZU(U O:Nat)(M:qhu)(c:List Par)(a:Int)(w:qhr)(Z:q5e U O w M c a)(Y:O<=w.heap.size)(X:c.length<=1000) :qis Ya 27 #[M] w λe D=>∃N,e=.returned (.agg #[N,a])/\w.gb D none/\qr w.heap.size D.heap.size D N c:=by
 obtain⟨pv,rfl,H⟩:=Z;obtain⟨C,B,rfl,G,-⟩:=H.cell;have⟨A,n,Q,p,s,k,u,q⟩:=zy w (.cells #[.slice C c.length B,a] 24) (.cells #[.slice none 0 0,.int .i64 0] 24);have⟨f,HW,L,T,S,HP⟩:=Kq u p Q s q H;have l:=qhp (show ∀W,n.gb W none->W.cell? A=some (.slice C c.length B)/\W.cell? ⟨A,1,none⟩=some (.int .i64 a) from λW h=>⟨q8 (bk h k) rfl,q8 (bk h k) rfl⟩);clear H p Q s k u q;go_enter Tp.x27,Tryz.ntmps27;go_upto_region 1 with(fail);rw[<- L,<- HW];refine qz 7 (λW=>W.cell? A=some (.slice C c.length B)/\W.cell? ⟨A,1,none⟩=some (.int .i64 a)) (by kernel_rfl) (by kernel_rfl) (l _ (qe n none)) (λhHeld=>?_);simp only[qhE,qi1,qib,qiA,qi6,qie,qif,qio,qii,qi7];refine tk 1 (h:=tk 2 (h:=tk 4 (h:=tk 5 (h:=?_))));try go_frame
 refine rdc 0 λK r=>?_;go_simp;have I:=qhp ((qe n none).t (qhq n.drew (.cells #[] 28) none));refine r.out _ _ (l _ I) (λhHeld=>?_);clear r K;try go_frame
 refine rdc 3 λK r=>?_;refine xm (.tmp 3) (.tmp 5) (HP.kept (T.t I)) (qhA n.drew _) (show A+2<=n.heap.size by have:=S.out;omega) X λz y x g d=>?_;have HO:=qhp g;have b:=qhp (qkm (row:=none) I d (λj e=>.inl (by cases e;exact qhv _)));clear g d;refine r.out _ _ (l _ b) (λhHeld=>?_);clear r K;try go_frame
 refine tk 6 (h:=?_);try go_frame
 refine⟨by kernel_rfl,?_⟩;simp only[qig,qit];have z0:=q8 (bk b f) (o:=0) rfl;have z1:=q8 (bk b f) (o:=1) rfl;have z2:=qn (o:=0) (bk b f);have z3:=qn (o:=1) (bk b f);clear hHeld;go_wp2;have V:=qi (o:=1) (v:=.int .i64 a) (qi (o:=0) (v:=.slice z c.length y) (bk b f));have i:=(qh x (A+1) 0 (.slice z c.length y)).t (qh _ (A+1) 1 (.int .i64 a));have a6:A+1<x.heap.size:=by have:=b.out.size;have:=S.out;omega
 have F:qr (A+2) x.heap.size x (.slice z c.length y) c:=qr.own HO rfl G;exact qka (v:=.agg #[.slice z c.length y,a]) (by simp[qke,Tryz.results27,go_sem,qiq,V]) rfl ⟨_,rfl,(T.t b).andThen (row':=some (A+1)) i (by rintro j e;cases e;exact .inl (by have:=L.out;omega)),(F.kept i (by rintro R e;cases e;exact .inl (by omega))).mono (by have:=L.out;omega) i.size⟩
def qeG(f:qhr)(A:Nat)(c:Int)(b:List Par)(p:Par)(a:qhr):Prop :=
 ∃e d,a.heap[A]?=some (.cells #[.slice e (b.length+1) d,c] 24 (0,0))/\f.gb a (some A)/\qr (A+3) a.heap.size a (.slice e (b.length+1) d) (b++[p])
def q9H{h d:qhr}{A g c:Nat}{f:Int}{a:List Par}{p:Par}{v:qhu}(k:d.heap[A]?=some (.cells #[v,f] 24 (0,0)))(j:h.gb d none)(i:d.ownsRow (A+3) 28 4 (.slice (some g) (a.length+1) c) (a.length+1) (yU a++vz p))(l:a.length<=1000) :qeG h A f a p (d.setCell A (.slice (some g) (a.length+1) c)):=by
 rw[<- K0] at i;have b:=qh d A 0 (.slice (some g) (a.length+1) c);exact⟨_,_,qi (o:=0) k,(j.but _).t b,((qr.own i (by simp) (by simp;omega)).kept b (by rintro R e;cases e;exact .inl (by omega))).mono (qhv _) b.size⟩
def q81(lo hi:Nat)(pv:qhu)(u:List Par)(l:Int)(p:Par)(w:qhr)(hP:zi lo hi w pv u)(F:u.length<=1000) :qis Ya 38 #[.agg #[pv,l],.agg #[p.mn,p.mx,p.bears,p.tall]] w λe w'=>∃v',e=.returned (.agg #[v',l])/\w.gb w' none/\qr w.heap.size w'.heap.size w' v' (u++[p]):=by
 obtain⟨L,I,rfl,e4,-⟩:=hP.cell;obtain⟨A,Q⟩:∃A,A=w.heap.size:=⟨_,rfl⟩;obtain⟨k,r⟩:∃k,k=((w.alloc (.cells #[.slice L u.length I,l] 24)).alloc (.cells #[p.mn,p.mx,p.bears,p.tall] 28)).alloc (.cells #[.slice none 0 0,.int .i64 0] 24):=⟨_,rfl⟩;have U:w.gb k none:=by rw[r];exact((qhq _ _ none).t (qhq _ _ none)).t (qhq _ _ none)
 have G:k.heap[A]?=some (.cells #[.slice L u.length I,l] 24 (0,0)):=by rw[r,Q];exact qq (qq (qhA w _))
 have y:k.heap[A+1]?=some (.cells #[p.mn,p.mx,p.bears,p.tall] 28 (0,0)):=by
  rw[r];have:=qhA (w.alloc (.cells #[.slice L u.length I,l] 24)) (.cells #[p.mn,p.mx,p.bears,p.tall] 28);rw[qhH,<- Q] at this;exact qq this
 have V:k.heap[A+2]?=some (.cells #[.slice none 0 0,.int .i64 0] 24 (0,0)):=by
  rw[r];have:=qhA ((w.alloc (.cells #[.slice L u.length I,l] 24)).alloc (.cells #[p.mn,p.mx,p.bears,p.tall] 28)) (.cells #[.slice none 0 0,.int .i64 0] 24);rw[qhH,qhH,<- Q] at this;exact this
 have T:k.heap.size=A+3:=by rw[r,qhH,qhH,qhH,Q]
 have⟨q,c3,HW,Y,X,z,HP⟩:=q6k G V r Q U T hP;have n:=qhp (show ∀W,k.gb W none->W.cell? A=some (.slice L u.length I)/\W.cell? ⟨A,1,none⟩=some (.int .i64 l)/\W.cell? (A+1:Nat)=some (.int .i64 p.mn)/\W.cell? ⟨A+1,1,none⟩=some (.int .i64 p.mx)/\W.cell? ⟨A+1,2,none⟩=some (.int .i64 p.bears)/\W.cell? ⟨A+1,3,none⟩=some (.int .i64 p.tall) from λW h=>⟨q8 (bk h G) rfl,q8 (bk h G) rfl,q8 (bk h y) rfl,q8 (bk h y) rfl,q8 (bk h y) rfl,q8 (bk h y) rfl⟩);clear hP r Q U G y V T;go_enter Tp.x38,Tryz.ntmps38;go_upto_region 1 with(fail);rw[<- Y,<- HW];go_cut [] from 5 to 13 (λwx=>qeG k A l u p wx)
 case first=>
  refine qz 8 (λW=>W.cell? A=some (.slice L u.length I)/\W.cell? ⟨A,1,none⟩=some (.int .i64 l)/\W.cell? (A+1:Nat)=some (.int .i64 p.mn)/\W.cell? ⟨A+1,1,none⟩=some (.int .i64 p.mx)/\W.cell? ⟨A+1,2,none⟩=some (.int .i64 p.bears)/\W.cell? ⟨A+1,3,none⟩=some (.int .i64 p.tall)) (by kernel_rfl) (by kernel_rfl) (n _ (qe k none)) (λhHeld=>?_);simp only[qhE,qi1,qib,qiA,qi6,qie,qif,qio,qii,qi7];refine tk 1 (h:=tk 2 (h:=tk 4 (h:=?_)));try go_frame
  have f:=qhp (qe k none);refine rdy [0,5] ?_;refine cns 0 (λK i=>?_) (cns 5 (λK i=>?_) qP.nil)
  ·go_simp;have S:=qhp (show(k.drew.alloc (.cells #[] 28)).heap[k.heap.size]?=some (.cells #[] 28 (0,0)) by have:=qhA k.drew (.cells #[] 28);exact this);have s:=qhp (show A+3<=k.heap.size by have:=z.out;omega);replace f:=qhp (f.t (qhq k.drew (.cells #[] 28) none));refine i.out _ _ (n _ f) (λhHeld=>?_);clear i K;try go_frame
   refine rdy [3,5] ?_;refine cns 3 (λK i=>?_) (cns 5 (λK i=>?_) qP.nil)
   ·refine xm (.tmp 5) (.tmp 7) (HP.kept (X.t f)) S (s) F λO N M b a=>?_;have D:=qhp b;replace f:=qhp (qkm (row:=none) f a (λj e=>.inl (by cases e;have:=s.out;have:=z.out;omega)));clear b a;refine i.out _ _ (n _ f) (λhHeld=>?_);clear i K;try go_frame
    refine rdc 5 λK i=>?_;go_simp;have C:=qhp (show(M.alloc (.cells #[p.mn,p.mx,p.bears,p.tall] 28)).heap[M.heap.size]?=some (.cells #[p.mn,p.mx,p.bears,p.tall] 28 (0,0)) by have:=qhA M (.cells #[p.mn,p.mx,p.bears,p.tall] 28);exact this);replace f:=qhp (f.t (qhq M (.cells #[p.mn,p.mx,p.bears,p.tall] 28) none));replace D:=qhp (D.alloc (.cells #[p.mn,p.mx,p.bears,p.tall] 28));refine i.out _ _ (n _ f) (λhHeld=>?_);clear i K;try go_frame
    refine rdc 6 λK i=>?_;refine YI (.tmp 8) (.tmp 10) D C F (by have:=f.out.size;have:=z.out;omega) λg c w6 b a=>?_;have B:=qhp b;have d:=qhp (qkm (row:=none) f a (λj e=>.inl (by have:=D.out.lt j e;have:=z.out;omega)));clear b a;refine i.out _ _ (n _ d) (λhHeld=>?_);clear i K;try go_frame
    refine tk 7 (h:=?_);try go_frame
    refine⟨by kernel_rfl,?_⟩;simp only[qig,qit];have z0:=q8 (bk d q) (o:=0) rfl;have Z:=qn (o:=0) (bk d q);clear hHeld;go_wp2;go_meet;exact q9H (bk d q) d B F
   ·go_simp;have C:=qhp (show((k.drew.alloc (.cells #[] 28)).alloc (.cells #[p.mn,p.mx,p.bears,p.tall] 28)).heap[k.heap.size+1]?=some (.cells #[p.mn,p.mx,p.bears,p.tall] 28 (0,0)) by have:=qhA (k.drew.alloc (.cells #[] 28)) (.cells #[p.mn,p.mx,p.bears,p.tall] 28);rw[qhH] at this;exact this);replace f:=qhp (f.t (qhq (k.drew.alloc (.cells #[] 28)) (.cells #[p.mn,p.mx,p.bears,p.tall] 28) none));replace S:=qhp (qq (p:=(.cells #[p.mn,p.mx,p.bears,p.tall] 28)) S);refine i.out _ _ (n _ f) (λhHeld=>?_);clear i K;try go_frame
    refine rdc 3 λK i=>?_;refine xm (.tmp 5) (.tmp 7) (HP.kept (X.t f)) S (s) F λO N M b a=>?_;have D:=qhp b;replace C:=qhp (bk a C);replace f:=qhp (qkm (row:=none) f a (λj e=>.inl (by cases e;have:=s.out;have:=z.out;omega)));clear b a;refine i.out _ _ (n _ f) (λhHeld=>?_);clear i K;try go_frame
    refine rdc 6 λK i=>?_;refine YI (.tmp 8) (.tmp 10) D C F (by have:=f.out.size;have:=z.out;omega) λg c w6 b a=>?_;have B:=qhp b;have d:=qhp (qkm (row:=none) f a (λj e=>.inl (by have:=D.out.lt j e;have:=z.out;omega)));clear b a;refine i.out _ _ (n _ d) (λhHeld=>?_);clear i K;try go_frame
    refine tk 7 (h:=?_);try go_frame
    refine⟨by kernel_rfl,?_⟩;simp only[qig,qit];have z0:=q8 (bk d q) (o:=0) rfl;have Z:=qn (o:=0) (bk d q);clear hHeld;go_wp2;go_meet;exact q9H (bk d q) d B F
  ·go_simp;have C:=qhp (show(k.drew.alloc (.cells #[p.mn,p.mx,p.bears,p.tall] 28)).heap[k.heap.size]?=some (.cells #[p.mn,p.mx,p.bears,p.tall] 28 (0,0)) by have:=qhA k.drew (.cells #[p.mn,p.mx,p.bears,p.tall] 28);exact this);replace f:=qhp (f.t (qhq k.drew (.cells #[p.mn,p.mx,p.bears,p.tall] 28) none));refine i.out _ _ (n _ f) (λhHeld=>?_);clear i K;try go_frame
   refine rdc 0 λK i=>?_;go_simp;have S:=qhp (show((k.drew.alloc (.cells #[p.mn,p.mx,p.bears,p.tall] 28)).alloc (.cells #[] 28)).heap[(k.heap.size+1)]?=some (.cells #[] 28 (0,0)) by have:=qhA (k.drew.alloc (.cells #[p.mn,p.mx,p.bears,p.tall] 28)) (.cells #[] 28);rw[qhH] at this;exact this);have s:=qhp (show A+3<=(k.heap.size+1) by have:=z.out;omega);replace f:=qhp (f.t (qhq (k.drew.alloc (.cells #[p.mn,p.mx,p.bears,p.tall] 28)) (.cells #[] 28) none));replace C:=qhp (qq (p:=.cells #[] 28) C);refine i.out _ _ (n _ f) (λhHeld=>?_);clear i K;try go_frame
   refine rdc 3 λK i=>?_;refine xm (.tmp 5) (.tmp 7) (HP.kept (X.t f)) S (s) F λO N M b a=>?_;have D:=qhp b;replace C:=qhp (bk a C);replace f:=qhp (qkm (row:=none) f a (λj e=>.inl (by cases e;have:=s.out;have:=z.out;omega)));clear b a;refine i.out _ _ (n _ f) (λhHeld=>?_);clear i K;try go_frame
   refine rdc 6 λK i=>?_;refine YI (.tmp 8) (.tmp 10) D C F (by have:=f.out.size;have:=z.out;omega) λg c w6 b a=>?_;have B:=qhp b;have d:=qhp (qkm (row:=none) f a (λj e=>.inl (by have:=D.out.lt j e;have:=z.out;omega)));clear b a;refine i.out _ _ (n _ d) (λhHeld=>?_);clear i K;try go_frame
   refine tk 7 (h:=?_);try go_frame
   refine⟨by kernel_rfl,?_⟩;simp only[qig,qit];have z0:=q8 (bk d q) (o:=0) rfl;have Z:=qn (o:=0) (bk d q);clear hHeld;go_wp2;go_meet;exact q9H (bk d q) d B F
 case rest=>
  obtain⟨O,N,hb,hg,hp⟩:=hcut;have z0:=q8 hb (o:=0) rfl;have z1:=q8 hb (o:=1) rfl;have x:=bk hg c3;have Z:=q8 x (o:=0) rfl;have z3:=q8 x (o:=1) rfl;have z4:=qn (o:=0) x;have z5:=qn (o:=1) x;have⟨b9,b6,b8⟩:=ze x hp hg;clear hb x hp hg;go_wp2;have hz:=qi (o:=1) (v:=.int .i64 l) (qi (o:=0) (v:=.slice O (u.length+1) N) b9);have H:=(qh wc (A+2) 0 (.slice O (u.length+1) N)).t (qh _ (A+2) 1 (.int .i64 l));exact qka (v:=.agg #[.slice O (u.length+1) N,l]) (by simp[qke,Tryz.results38,go_sem,qiq,hz]) rfl ⟨_,rfl,((qhD w none).andThen (X.andThen (row:=none) b8 (by rintro j e;cases e;exact .inl (by have:=Y.out;omega))) (λj e=>by cases e)).andThen (row':=some (A+2)) H (by rintro j e;cases e;exact .inl (by have:=Y.out;omega)),(b6.kept H (by rintro R e;cases e;exact .inl (by omega))).mono (by have:=Y.out;omega) H.size⟩
end
section
open Go.RowKit
structure OnAt(w:qhr)(Bm Y Bp:Nat)(yb pb:Option qiG)(yc pc:Nat)(ps:List Par)(lim:Int)(l:List Int):Prop where
 m0:w.cell? Bm=some (.int .u8 (zj l:Nat))
 y0:w.cell? Y=some (.slice yb ps.length yc)
 y1:w.cell? ⟨Y,1,none⟩=some (.int .i64 lim)
 p0:w.cell? Bp=some (.slice pb l.length pc)
 hP:qr 0 w.heap.size w (.slice yb ps.length yc) ps
 hI:qg 0 w.heap.size w (.slice pb l.length pc) l
 pl:l.length<=pc
end
section
def q3m(l:List Int)(x:Int):tot (l++[x])=tot l+x:=by
 induction l with
 | nil=>simp[tot]
 | cons a t b=>simp only[qi7,tot,b];omega
end
section
open Go.RowKit
@[simp] theorem qhi(w:qhr):(method 355 170 (.agg #[]) "gladstone/pile.holds").run Ya w=.ok (241,.agg #[]) w:=by kernel_rfl
@[simp] theorem qhh(w:qhr):(method 355 171 (.agg #[]) "gladstone/pile.holds").run Ya w=.ok (242,.agg #[]) w:=by kernel_rfl
def zM(a:List Par)(b gx:Nat->Int)(l:List Int)(i:Nat):Int:=q3c (!yV a b l i) (!yV a gx l i)
end
section
def JL{g b:Nat->Int}(d:∀i,g i<=b i)(l:List Int)(k:Nat):loadAt g l k<=loadAt b l k:=by
 have c:∀t:List Int,tot (t.map λx=>g x.toNat)<=tot (t.map λx=>b x.toNat):=λt=>by
  induction t with
  | nil=>exact Int.le_refl _
  | cons a t e=>simp only[qll,tot];have:=d a.toNat;omega
 exact c _
def q1d{a:List Par}{g b:Nat->Int}(c:∀i,g i<=b i){l:List Int}{k:Nat}(h:yV a b l k=true):yV a g l k=true:=by
 unfold yV at h ⊢;split at h
 ·have:=JL c l k;have:=of_decide_eq_true h;exact decide_eq_true (by omega)
 ·cases h
def yB{b:List Par}{g:Nat->Int}{l:List Int}:qx b g l=true↔∀k,k<l.length->yV b g l k=true:=by
 unfold qx;rw[qiB];exact⟨λh k a=>h k (qjC.2 a),λh k a=>h k (qjC.1 a)⟩
def xn{a:List Par}{g b:Nat->Int}(d:∀i,g i<=b i){l:List Int}(h:qx a b l=true):qx a g l=true :=
 yB.2 λk c=>q1d d (yB.1 h k c)
def YOk.le{a:List Par}{b:Int}(h:YOk a b)(i:Nat):pre Par.mn a a.length i<=pre Par.mx a a.length i:=by
 unfold pre;split
 ·rename_i c
  rw[qhz c];have:=h.each _ (qmB c);simp only;omega
 ·omega

end
section
open Go.RowKit
def q3E(lo hi:Nat)(T:qhu)(s:List Par)(f:Int)(p:Par)(b g:Nat)(w:qhr)(hP:zi lo hi w T s)(V:zf w b g)(hg:g<100000) :qis Ya 25 #[.agg #[T,f],.agg #[p.mn,p.mx,p.bears,p.tall],.pointer (some b)] w λe c =>∃d i U S Z,qg6 4 d i/\e=.returned (.slice (some ⟨Z,0,none⟩) 3 3)/\Tn b (g+31) w c/\w.heap.size<=Z/\c.heap[Z]?=some (.cells #[T,f,U,.int .i64 i,S,.int .i64 i] 24 (0,0)) /\qr w.heap.size c.heap.size c U d/\qr w.heap.size c.heap.size c S (d++[p]):=by
 obtain⟨B,z,rfl,d8,hc⟩:=hP.cell;obtain⟨A,w1,hA,l,H,L,I,-⟩:=zy w (.cells #[.slice B s.length z,f] 24) (.cells #[p.mn,p.mx,p.bears,p.tall] 28);have F:zf w1 b g:=by rw[l];exact(V.alloc _).alloc _
 have e8:b<A:=by rw[hA];exact V.lt
 have⟨P,HW,HA,r,R,Q⟩:=Kq F l hA H L I;clear hP hc l hA H L I V F;go_enter Tp.x25,Tryz.ntmps25;go_upto_region 1 with(fail);rw[<- HA,<- HW];go_upto_region 2 with(go_at_call 33;refine(q5l b g 4 w1 P hg (by omega)).mono ?_;rintro e w2 ⟨d,i,U,C,rfl,G,n⟩;have O:=qhp G;have P2:=qhp n;have YD:=qhp C;obtain⟨x,v,rfl,e4,-⟩:=n.cell;clear G n C);obtain⟨M,Y⟩:∃M,M=w2.heap.size:=⟨_,rfl⟩;rw[<- Y];have a:=qhq w2 (.cells #[.slice x d.length v,.int .i64 i] 24) none;have d9:d.length<=4:=YD.out.len;refine vx (λu=>w.gb u (some b)/\zf u b (g+31)/\M<u.heap.size/\u.heap[A]?=some (.cells #[.slice B s.length z,f] 24 (0,0))/\u.heap[A+1]?=some (.cells #[p.mn,p.mx,p.bears,p.tall] 28 (0,0))/\u.heap[M]?=some (.cells #[.slice x d.length v,.int .i64 i] 24 (0,0))/\qr w.heap.size u.heap.size u (.slice x d.length v) d)
  ⟨((((qhD w (some b)).andThen r (λj e=>by cases e)).andThen O.1 (λj e=>.inr e)).andThen a (λj e=>by cases e)),O.2.alloc _,by rw[qhH];omega,bk a (blk O.1 (by simp;omega) R),bk a (blk O.1 (by simp;omega) Q),by rw[Y];exact qhA _ _,(P2.alloc _).mono r.size a.size⟩ (λu hF=>?_)
 obtain⟨f1,f2,f3,f4,N,f6,f7⟩:=hF;have q:=qhp (show ∀c,u.gb c none->c.cell? A=some (.slice B s.length z)/\c.cell? ⟨A,1,none⟩=some (.int .i64 f)/\c.cell? (A+1:Nat)=some (.int .i64 p.mn)/\c.cell? ⟨A+1,1,none⟩=some (.int .i64 p.mx)/\c.cell? ⟨A+1,2,none⟩=some (.int .i64 p.bears)/\c.cell? ⟨A+1,3,none⟩=some (.int .i64 p.tall)/\c.cell? M=some (.slice x d.length v)/\c.cell? ⟨M,1,none⟩=some (.int .i64 i) from λc h=>⟨q8 (bk h f4) rfl,q8 (bk h f4) rfl,q8 (bk h N) rfl,q8 (bk h N) rfl,q8 (bk h N) rfl,q8 (bk h N) rfl,q8 (bk h f6) rfl,q8 (bk h f6) rfl⟩);have D:w.heap.size<=u.heap.size:=f1.size;have⟨F1,F2,F7⟩:=ze f1 f2 f7;have X:Hid ((d++[p]).length=d.length+1):=qhp (by simp);clear O P2 P R Q r a Y f1 f2 f3 f4 N f6 f7;refine qz 6 (λc=>c.cell? A=some (.slice B s.length z)/\c.cell? ⟨A,1,none⟩=some (.int .i64 f)/\c.cell? (A+1:Nat)=some (.int .i64 p.mn)/\c.cell? ⟨A+1,1,none⟩=some (.int .i64 p.mx)/\c.cell? ⟨A+1,2,none⟩=some (.int .i64 p.bears)/\c.cell? ⟨A+1,3,none⟩=some (.int .i64 p.tall)/\c.cell? M=some (.slice x d.length v)/\c.cell? ⟨M,1,none⟩=some (.int .i64 i)) (by kernel_rfl) (by kernel_rfl) (q _ (qe u none)) (λhHeld=>?_);simp only[qhE,qi1,qib,qiA,qi6,qie,qif,qio,qii,qi7];refine tk 0 (h:=tk 1 (h:=tk 2 (h:=tk 3 (h:=?_))));try go_frame
 refine rdc 4 λK hK=>?_;go_simp;go_at_call 38;refine(q81 0 u.heap.size _ d i p u.drew ((F7.kept (qe u none)).mono (qiu _) (qhv _)).g (by omega)).mono ?_;rintro e w6 ⟨S,rfl,o,k⟩;have y:=qhp ((qe u none).t o);have W:=o.size;obtain⟨wb,wc,rfl,-,-⟩:=k.cell;rw[X] at k ⊢;have P6:=qhp k;refine hK.out _ _ (q _ y) (λhHeld=>?_);clear o k;try go_frame
 refine rdc 5 λK hK=>?_;go_simp;have a:=qhq w6 (.cells #[.slice B s.length z,f,.slice x d.length v,.int .i64 i,.slice wb (d.length+1) wc,.int .i64 i] 24) none;refine hK.out _ _ (q _ (y.t a)) (λhHeld=>?_);try go_frame
 refine⟨by kernel_rfl,?_⟩;simp only[qig,qit];have b0:=qhp a;clear hHeld a;go_wp2;go_ret;have a:=b0.out;refine⟨d,i,_,_,w6.heap.size,YD,rfl,⟨(F1.andThen y (λj e=>by cases e)).andThen a (λj e=>by cases e),(F2.kept y).alloc _⟩,qhB D W,qhA _ _,?_,?_⟩
 ·exact((F7.kept y).alloc _).mono (qhv _) (qhB y.size a.size)
 ·exact(P6.alloc _).mono D a.size
def qfs(a b c d e f g h:Int)(w:qhr):(Op.equalIn 10000 28 (.agg #[a,b,c,d]) (.agg #[e,f,g,h])).run Ya w=.ok (decide (a=e/\b=f/\c=g/\d=h)) w:=by
 have u26:Ya.underlying 26=Tryz.prog.underlying 26:=Tp.und 26;have u28:Ya.underlying 28=Tryz.prog.underlying 28:=Tp.und 28;have u3:Ya.underlying 3=some (.int .i64):=by rw[Tp.und];exact qmD
 have l:Ya.underlying 28=some (.struct (Ya.fieldsOf 28)):=by kernel_rfl
 have k:Ya.underlying 26=some (.struct (Ya.fieldsOf 26)):=by kernel_rfl
 have j:Ya.stoodInHeld 28=false:=by kernel_rfl
 have i:Ya.stoodInHeld 26=false:=by kernel_rfl
 rw[show(10000:Nat)=9998+1+1 from rfl,run_equalIn_agg w (9998+1) 28 _ _ l j];simp only[Program.fieldsOf,u28,Tryz.underlying28];go_simp;by_cases q:a=e<;>by_cases p:b=f<;>by_cases o:c=g<;>by_cases n:d=h<;>simp[q,p,o,n]
def qdp(a b c d e f g h:Int)(w:qhr):(binOp .neq 28 (.agg #[a,b,c,d]) (.agg #[e,f,g,h])).run Ya w=.ok (.bool (!decide (a=e/\b=f/\c=g/\d=h))) w:=by
 rw[run_neq_struct,qfs];rfl
def q8u(c:BinOp)(x y:qiy)(a b:Array qhu)(w:qhr):(eqGuard c 28 x y (.agg a) (.agg b)).run Ya w=.ok () w:=run_eqGuard_agg w c 28 x y a b (by kernel_rfl)
def q0c(la ha lb hb:Nat)(va vb:qhu)(a b:List Par)(j y:Int)(w:qhr)(V:q5e la ha w va a j)(U:q5e lb hb w vb b y) :qis Ya 32 #[va,vb] w λe w'=>e=.returned (.bool (decide (j=y/\a=b)))/\w.gb w' none:=by
 obtain⟨pa,rfl,V⟩:=V;obtain⟨pb,rfl,U⟩:=U;obtain⟨ba,ca,rfl,l7,R⟩:=V.cell;obtain⟨bb,cb,rfl,l6,h2⟩:=U.cell;obtain⟨X,w1,hX,L,O,v,u,-⟩:=zy w (.cells #[.slice ba a.length ca,j] 24) (.cells #[.slice bb b.length cb,y] 24);have⟨H1,H2,HW,HX,n⟩:=ZW R h2 L hX O;have q0:=q8 v (o:=0) rfl;have q1:=q8 v (o:=1) rfl;have q2:=q8 u (o:=0) rfl;have q3:=q8 u (o:=1) rfl;clear R h2 V U L hX O v u;by_cases f:j=y;rotate_left
 ·have x:=qhp (show decide (j=y/\a=b)=false from decide_eq_false λh=>f h.1);have l5:(j != y)=true:=by simp[f]
  clear f;go_enter Tp.x32,qrl;go_upto_region 1 with(fail);rw[<- HX,<- HW];go_wp2;go_ret;exact⟨by rw[x];rfl,n⟩
 subst f;rw[show decide (j=j/\a=b)=decide (a=b) by simp];by_cases d:a.length=b.length
 ·have HL:=qhp d;have s:((a.length:Int) != (b.length:Int))=false:=by rw[d];simp
  clear d;go_enter Tp.x32,qrl;go_upto_region 1 with(fail);rw[<- HX,show(w.alloc (.cells #[.slice ba a.length ca,j] 24)).alloc (.cells #[.slice bb b.length cb,j] 24)=w1 from HW.symm];go_wp2;go_loopw [5] (λiv wr=>∃k:Nat,iv=.int .i64 k/\k<=a.length/\(∀i,i<k->a[i]?=b[i]?)/\w1.gb wr none) (λiv _=>(a.length - qiF iv).toNat)
  case atStart=>exact⟨0,rfl,by omega,λi T=>absurd T (by omega),qhD _ _⟩
  case round=>
   obtain⟨k,rfl,hk,M,z⟩:=hrel;have⟨S,HG⟩:=qE M z;have r0:=z.cl q0;have r2:=z.cl q2;clear M;by_cases r:k<a.length
   ·have l:k<b.length:=by have:=HL.out;omega
    obtain⟨A1,o1,rfl,-,-,-,Q⟩:=H1.out (by intro e;rw[e] at r;simp at r);obtain⟨B1,o2,rfl,-,-,-,P⟩:=H2.out (by intro e;rw[e] at l;simp at l);have⟨p,e1,I,H,G,F⟩:=Q k r;have⟨q,e2,D,C,B,A⟩:=P k l;have c:=n.out.t z;have x1:=c.cl I;have x2:=c.cl H;have x3:=c.cl G;have x4:=c.cl F;have y1:=c.cl D;have y2:=c.cl C;have y3:=c.cl B;have y4:=c.cl A;obtain⟨p1,p2,p3,p4⟩:=p;obtain⟨z1,Z,Y,W⟩:=q;dsimp only at x1 x2 x3 x4 y1 y2 y3 y4;have l8:(k:Int)<(b.length:Int):=by omega
    have l9:(k:Int)<(a.length:Int):=by omega
    have⟨E1,E2⟩:=qE e1 e2;clear Q P z e1 e2 I H G F D C B A c;have N:=qdp p1 p2 p3 p4 z1 Z Y W;have m3:=q8u .neq (.tmp 31) (.tmp 36) #[p1,p2,p3,p4] #[z1,Z,Y,W];by_cases g:p1=z1/\p2=Z/\p3=Y/\p4=W
    ·rw[decide_eq_true g] at N;have d6:=qhp g;clear g;go_upto_region 6 with(fail);go_quiet (fail);go_wp2;go_roundw
     case rel=>
      refine⟨k+1,by simp,by omega,λi T=>?_,HG.t (qk _ _ _)⟩;by_cases e:i=k
      ·obtain⟨rfl,rfl,rfl,rfl⟩:=d6.out;rw[e,E1,E2]
      ·exact S i (by omega)
     case measure=>simp[qiF];omega
    ·rw[decide_eq_false g] at N;have x:=qhp (show decide (a=b)=false by
      rw[decide_eq_false_iff_not];intro e;have R:=E1.out;rw[e,E2] at R;exact g (by cases R;exact⟨rfl,rfl,rfl,rfl⟩))
     clear g;go_upto_region 6 with(fail);go_quiet (fail);go_wp2;go_ret;exact⟨by rw[x];rfl,n.t (HG.t (qk _ _ _))⟩
   ·obtain rfl:k=a.length:=by omega
    have x:=qhp (show decide (a=b)=true by
     rw[decide_eq_true_eq];refine qnj λi=>?_;by_cases T:i<a.length
     ·exact S i T
     ·rw[qjp (by omega),qjp (by have:=HL.out;omega)])
    clear z;go_wp2;go_ret;exact⟨by rw[x];rfl,n.t HG⟩
 ·have x:=qhp (show decide (a=b)=false by
   rw[decide_eq_false_iff_not];intro e;exact d (by rw[e]))
  have s:((a.length:Int) != (b.length:Int))=true:=by simp;omega
  clear d;go_enter Tp.x32,qrl;go_upto_region 1 with(fail);rw[<- HX,show(w.alloc (.cells #[.slice ba a.length ca,j] 24)).alloc (.cells #[.slice bb b.length cb,j] 24)=w1 from HW.symm];go_wp2;go_ret;exact⟨by rw[x];rfl,n⟩
def jE(a:List Par):List (Int × Int):=a.map λp=>(p.mn,p.mx)
def q26(lo hi:Nat)(M:qhu)(a:List Par)(i:Int)(w:qhr)(hY:q5e lo hi w M a i)(hl:a.length<=1000) :qis Ya 89 #[M] w λe y=>∃v,e=.returned v/\w.gb y none/\qK w.heap.size y.heap.size y v (jE a):=by
 have⟨i0,F,D,C,B⟩:=qjx Tp.info26p;obtain⟨pv,rfl,S⟩:=hY;obtain⟨Z,Y,rfl,b9,R⟩:=S.cell;have⟨A,x,T,l,q,r⟩:=zo w (.cells #[.slice Z a.length Y,i] 24);have⟨G,HA,g,HC⟩:=j8 l T q R;have q0:=q8 r (o:=0) rfl;clear S R l T q r;go_enter Tp.x89,Tryz.ntmps89;go_upto_region 3 with(fail);rw[<- HA,<- G];go_wp2;go_loopw [3,4] (λov z wr=>∃k:Nat,z=.int .i64 k/\k<=a.length/\x.gb wr none/\wr.ownsRow x.heap.size 26 2 ov k (yr ((jE a).take k))) (λ_ z _=>(a.length - qiF z).toNat)
 case atStart=>exact⟨0,rfl,by omega,qhD _ _,by simpa[yr] using qjF _ _ _ _⟩
 case round=>
  obtain⟨k,rfl,hk,h,u⟩:=hrel;obtain⟨oa,om,oc,rfl⟩:=zB u;have⟨X,I⟩:=qE h u;have c3:=h.size;have a6:=h.cl q0;by_cases d:k<a.length
  ·obtain⟨YB,yo,rfl,-,-,-,U⟩:=HC.out (by intro e;rw[e] at d;simp at d);obtain⟨p,P,O,N,-,-⟩:=U k d;have f:=g.out.t h;have x1:=f.cl O;have x2:=f.cl N;have HS:=qhp (show yr ((jE a).take (k+1))=yr ((jE a).take k)++[.int .i64 p.mn,.int .i64 p.mx] by
    have:(jE a)[k]?=some (p.mn,p.mx):=by unfold jE;rw[qjE,P];rfl
    rw[qj7,this];exact KN _ _)
   have Q:(k:Int)<(a.length:Int):=by omega
   clear U P O N f h u;go_wp2_with (at_builtin;(refine wpList_append_own _ rfl _ _ 48 rfl x.heap.size 26 i0 _ 2 16 Tp.und48 F D C B rfl (by decide) (.slice oa om oc) k _ rfl (I.alloc _) ⟨wr.heap.size,0,none⟩ 1 1 [.int .i64 p.mn,.int .i64 p.mx] rfl rfl (qje (cs:=#[p.mn,p.mx]) (t:=26) (fr:=(0,0)) (qhA wr _)) (by simp[qjD]) (by unfold qlg;omega) (by omega) (by simp;omega) ?_);intro v' w7 b c _;obtain⟨g',W,rfl⟩:=qn6 b;have H:=qhp b;have L:=qhp c;clear b c);go_roundw
   case rel=>
    refine⟨k+1,by simp,by omega,(X.t (qhq _ _ none)).andThen L (λj e=>.inl (I.lt j e).1),?_⟩;rw[HS];exact H
   case measure=>simp[qiF];omega
  ·obtain rfl:k=a.length:=by omega
   have n:(jE a).length=a.length:=by simp[jE]
   have s:=qhp n;clear h u n;go_wp2;go_ret;have V:=I.out;rw[show(jE a).take a.length=jE a from qom (by rw[s];exact qhv _)] at V;exact⟨_,rfl,g.t X,(qK.own V (by rw[s];omega)).mono g.size (qhv _)⟩
def q2a:∀(t:List Int),(∀x∈t,0<=x/\x<=1000)->0<=tot t/\tot t<=1000*t.length
 | [],_=>by simp[tot]
 | a::t,h=>by
  have d:=q2a t λx b=>h x (by simp[b]);have c:=h a (by simp);simp only[tot,qhE];omega
def q8E(la ha lb hb:Nat)(lv bv:qhu)(l:List Int)(bs:List (Int × Int))(d gx:Nat->Int)(p:Nat)(w:qhr)(hI:qT la ha w lv l)(hB:qK lb hb w bv bs)(hg:∀x∈l,0<=x/\bs[x.toNat]?=some (d x.toNat,gx x.toNat))(O:∀i,0<=d i/\d i<=1000)(N:∀i,0<=gx i/\gx i<=1000)(hl:l.length<=1000)(hp:p<l.length) :qis Ya 105 #[lv,bv,p] w λe w'=>e=.returned (.agg #[(loadAt d l p),(loadAt gx l p)])/\w.gb w' none:=by
 obtain⟨b1,c1,rfl,-,h1⟩:=hI.cell;obtain⟨b2,c2,rfl,m9,h2⟩:=hB.cell;obtain⟨A,w1,hA,n,R,T,S,-⟩:=zy w (.cells #[.int .i64 0,.int .i64 0] 26) (.cells #[.int .i64 0,.int .i64 0] 26);have⟨HW,HA,b9,c8,c3,H1,H2,b8⟩:=qbB n hA R T S h1 h2 hg;have⟨X,W⟩:=qE O N;have m5:IntKind.i64.wrap ((p:Int)+1)=(p:Int)+1:=qin _ (by omega);clear hI hB h1 h2 n hA R T S hg O N;obtain⟨b,s⟩:∃b,b=l.drop (p+1):=⟨_,rfl⟩;have F:=qhp s;have M:b.length=l.length - (p+1):=by rw[s];simp
 have n6:=qhp M;have e9:b.length+(p+1)<=l.length:=by omega
 have e8:l.length<=b.length+(p+1):=by omega
 clear s M;go_enter Tp.x105,Tryz.ntmps105;go_upto_region 3 with(fail);rw[<- HA,<- HW];go_wp2;go_loopw [8] (λiv wr=>∃k:Nat,iv=.int .i64 ((p:Int)+1+k)/\k<=b.length/\w.gb wr none/\wr.heap[A]?=some (.cells #[.int .i64 0,.int .i64 0] 26 (0,0))/\wr.heap[A+1]?=some (.cells #[.int .i64 (tot ((b.take k).map λx=>d x.toNat)),.int .i64 (tot ((b.take k).map λx=>gx x.toNat))] 26 (0,0))) (λiv _=>(l.length - qiF iv).toNat)
 case atStart=>exact⟨0,by simp,by omega,b9,c8,by simpa[tot] using c3.out⟩
 case round=>
  obtain⟨k,rfl,hk,G,c,a⟩:=hrel;have⟨HG,Y,f⟩:=ze G c a;by_cases a9:k<b.length
  ·obtain⟨x,Z⟩:∃x,b[k]?=some x:=⟨_,qhz a9⟩;have h:l[p+1+k]?=some x:=by rw[<- Z,F,qlA]
   have⟨m3,g⟩:=b8.out x (qi9 h);obtain⟨m,rfl⟩:∃m:Nat,x=m:=⟨x.toNat,by omega⟩;simp only[Int.toNat_natCast] at g;have r:=(qi3.1 g).1;obtain⟨B,o,rfl,-,-,-,h4⟩:=H1.out (by intro e;rw[e] at hp;simp at hp);have d0:=G.cl (h4 (p+1+k) (by omega));rw[h] at d0;simp only[qhC] at d0;obtain⟨C,o2,rfl,-,-,-,h5⟩:=H2.out (by intro e;rw[e] at r;simp at r);have⟨q,hq,I,H⟩:=h5 m r;rw[g] at hq;cases hq;have y1:=G.cl I;have y2:=G.cl H;have Q:=q2a ((b.take k).map λx=>d x.toNat) (by simp only[qlp];rintro z ⟨y,-,rfl⟩;exact X _);have P:=q2a ((b.take k).map λx=>gx x.toNat) (by simp only[qlp];rintro z ⟨y,-,rfl⟩;exact W _);simp only[qkk,qky] at Q P;have a8:=X.out m;have a7:=W.out m;have D:=qhp (show tot ((b.take (k+1)).map λx=>d x.toNat)=tot ((b.take k).map λx=>d x.toNat)+d m by rw[qj7,Z];simp[q3m]);have u:=qhp (show tot ((b.take (k+1)).map λx=>gx x.toNat)=tot ((b.take k).map λx=>gx x.toNat)+gx m by rw[qj7,Z];simp[q3m]);generalize tot ((b.take k).map λx=>d x.toNat)=T1 at a f Q D;generalize tot ((b.take k).map λx=>gx x.toNat)=T2 at a f P u;generalize d m=m1 at y1 a8 D;generalize gx m=m2 at y2 a7 u;have n:IntKind.i64.wrap (T1+m1)=T1+m1:=qin _ (by omega);have m4:IntKind.i64.wrap (T2+m2)=T2+m2:=qin _ (by omega);have b0:(p:Int)+1+(k:Int)<(l.length:Int):=by omega
   have m8:(0:Int)<=(p:Int)+1+(k:Int):=by omega
   have m7:((p:Int)+1+(k:Int)).toNat=p+1+k:=by omega
   have m6:(m:Int)<(bs.length:Int):=by omega
   have z0:=q8 a (o:=0) rfl;have z1:=q8 a (o:=1) rfl;have t0:=qn a (o:=0);have t1:=qn a (o:=1);clear G c a h4 h5 Z h g I H;go_upto_region 5 with(fail);go_still_tail 23,(by kernel_rfl);change wpList _ _ _ _ _ wr.drew;have k8:wr.drew.cell? (A+1:Nat)=_:=z0;have k7:wr.drew.cell? ⟨A+1,1,none⟩=_:=z1;have l6:wr.drew.frozen? ⟨A+1,0,none⟩=false:=t0;have l5:wr.drew.frozen? ⟨A+1,1,none⟩=false:=t1;go_wp2;go_roundw
   case rel=>
    have L:=((qh wr.drew (A+1) 0 (.int .i64 (T1+m1))).t (qh _ (A+1) 1 (.int .i64 (T2+m2))));refine⟨k+1,by simp;omega,by omega,(HG.t (qe wr none)).andThen L (by rintro j e;cases e;exact .inl (by have:=HA.out;omega)),bk L (show wr.drew.heap[A]?=_ from Y),?_⟩;rw[D,u];exact qi (o:=1) (v:=.int .i64 (T2+m2)) (qi (o:=0) (v:=.int .i64 (T1+m1)) (show wr.drew.heap[A+1]?=_ from f))
   case measure=>simp[qiF];omega
  ·obtain rfl:k=b.length:=by omega
   rw[qjs] at a f;have V:=qhp (show tot (b.map λx=>d x.toNat)=loadAt d l p by rw[F];rfl);have U:=qhp (show tot (b.map λx=>gx x.toNat)=loadAt gx l p by rw[F];rfl);generalize tot (b.map λx=>d x.toNat)=T1 at a f V;generalize tot (b.map λx=>gx x.toNat)=T2 at a f U;have b0:¬ (p:Int)+1+(b.length:Int)<(l.length:Int):=by omega
   have z0:=q8 a (o:=0) rfl;have z1:=q8 a (o:=1) rfl;have y0:=q8 c (o:=0) rfl;have y1:=q8 c (o:=1) rfl;have t0:=qn c (o:=0);have t1:=qn c (o:=1);clear G c a;go_wp2;have hz:=qi (o:=1) (v:=.int .i64 T2) (qi (o:=0) (v:=.int .i64 T1) Y);have b6:=HG.out.andThen (row':=some A) ((qh wr A 0 (.int .i64 T1)).t (qh _ A 1 (.int .i64 T2))) (by rintro j e;cases e;exact .inl (by have:=HA.out;omega));exact qka (v:=.agg #[T1,T2]) (by simp[qke,Tryz.results105,go_sem,qiq,hz]) rfl ⟨by rw[V,U],b6⟩
def kN(x a b:Int)(w:qhr)(f:a<=x)(d:x<=b) :qis Ya 106 #[x,a,b] w λe c=>e=.returned (.bool true)/\w=c:=by
 go_enter Tp.x106,qqG;go_wp2;go_ret;exact⟨rfl,rfl⟩
def kO(x a b:Int)(w:qhr)(c:¬ (a<=x/\x<=b)) :qis Ya 106 #[x,a,b] w λe d=>e=.returned (.bool false)/\w=d:=by
 by_cases f:a<=x
 ·have g:¬ x<=b:=λh=>c ⟨f,h⟩;clear c;go_enter Tp.x106,qqG;go_wp2;go_ret;exact⟨rfl,rfl⟩
 ·clear c;go_enter Tp.x106,qqG;go_wp2;go_ret;exact⟨rfl,rfl⟩
def q0p(a b c d:Int)(w:qhr)(h:¬ (1<=a/\a<=12)) :qis Ya 111 #[.agg #[a,b,c,d]] w λe f=>e=.returned (.int .i64 1)/\w.gb f none:=by
 have g:=qhp h;clear h;go_enter Tp.x111,qnG;go_wp2_with (first
  | (go_at_call 106;refine(kN _ _ _ _ (by have:=g.out;omega) (by have:=g.out;omega)).mono ?_;rintro e f ⟨rfl,rfl⟩)
  | (go_at_call 106;(refine(kO _ _ _ _ (by have:=g.out;omega)).mono ?_);rintro e f ⟨rfl,rfl⟩))
 go_ret;exact⟨rfl,qhq _ _ _⟩
def q0o(a b c d:Int)(w:qhr)(i:1<=a/\a<=12)(h:¬ (1<=b/\b<=12)) :qis Ya 111 #[.agg #[a,b,c,d]] w λe f=>e=.returned (.int .i64 1)/\w.gb f none:=by
 have g:=qhp (qi8 i h);clear i h;go_enter Tp.x111,qnG;go_wp2_with (first
  | (go_at_call 106;refine(kN _ _ _ _ (by have:=g.out;omega) (by have:=g.out;omega)).mono ?_;rintro e f ⟨rfl,rfl⟩)
  | (go_at_call 106;(refine(kO _ _ _ _ (by have:=g.out;omega)).mono ?_);rintro e f ⟨rfl,rfl⟩))
 go_ret;exact⟨rfl,qhq _ _ _⟩
def q0n(a b c d:Int)(w:qhr)(i:1<=a/\a<=12)(h:1<=b/\b<=12)(j:b<a) :qis Ya 111 #[.agg #[a,b,c,d]] w λe f=>e=.returned (.int .i64 5)/\w.gb f none:=by
 have g:=qhp (qi8 i (qi8 h j));clear i h;go_enter Tp.x111,qnG;go_wp2_with (first
  | (go_at_call 106;refine(kN _ _ _ _ (by have:=g.out;omega) (by have:=g.out;omega)).mono ?_;rintro e f ⟨rfl,rfl⟩)
  | (go_at_call 106;(refine(kO _ _ _ _ (by have:=g.out;omega)).mono ?_);rintro e f ⟨rfl,rfl⟩))
 go_ret;exact⟨rfl,qhq _ _ _⟩
def q0m(a b c d:Int)(w:qhr)(j:1<=a/\a<=12)(i:1<=b/\b<=12)(k:¬ b<a)(h:¬ (0<=c/\c<=30)) :qis Ya 111 #[.agg #[a,b,c,d]] w λe f=>e=.returned (.int .i64 1)/\w.gb f none:=by
 have g:=qhp (qi8 j (qi8 i (qi8 k h)));clear j i h;go_enter Tp.x111,qnG;go_wp2_with (first
  | (go_at_call 106;refine(kN _ _ _ _ (by have:=g.out;omega) (by have:=g.out;omega)).mono ?_;rintro e f ⟨rfl,rfl⟩)
  | (go_at_call 106;(refine(kO _ _ _ _ (by have:=g.out;omega)).mono ?_);rintro e f ⟨rfl,rfl⟩))
 go_ret;exact⟨rfl,qhq _ _ _⟩
def q0l(a b c d:Int)(w:qhr)(k:1<=a/\a<=12)(j:1<=b/\b<=12)(l:¬ b<a)(i:0<=c/\c<=30)(h:¬ (1<=d/\d<=3)) :qis Ya 111 #[.agg #[a,b,c,d]] w λe f=>e=.returned (.int .i64 1)/\w.gb f none:=by
 have g:=qhp (qi8 k (qi8 j (qi8 l (qi8 i h))));clear k j i h;go_enter Tp.x111,qnG;go_wp2_with (first
  | (go_at_call 106;refine(kN _ _ _ _ (by have:=g.out;omega) (by have:=g.out;omega)).mono ?_;rintro e f ⟨rfl,rfl⟩)
  | (go_at_call 106;(refine(kO _ _ _ _ (by have:=g.out;omega)).mono ?_);rintro e f ⟨rfl,rfl⟩))
 go_ret;exact⟨rfl,qhq _ _ _⟩
def q0j(a b c d:Int)(w:qhr)(k:1<=a/\a<=12)(j:1<=b/\b<=12)(l:¬ b<a)(i:0<=c/\c<=30)(h:1<=d/\d<=3) :qis Ya 111 #[.agg #[a,b,c,d]] w λe f=>e=.returned (.int .i64 0)/\w.gb f none:=by
 have g:=qhp (qi8 k (qi8 j (qi8 l (qi8 i h))));clear k j i h;go_enter Tp.x111,qnG;go_wp2_with (first
  | (go_at_call 106;refine(kN _ _ _ _ (by have:=g.out;omega) (by have:=g.out;omega)).mono ?_;rintro e f ⟨rfl,rfl⟩)
  | (go_at_call 106;(refine(kO _ _ _ _ (by have:=g.out;omega)).mono ?_);rintro e f ⟨rfl,rfl⟩))
 go_ret;exact⟨rfl,qhq _ _ _⟩
def xf(p:Par)(w:qhr):qis Ya 111 #[.agg #[p.mn,p.mx,p.bears,p.tall]] w λe g=>e=.returned (.int .i64 (Q1 p))/\w.gb g none:=by
 unfold Q1;by_cases a:1<=p.mn/\p.mn<=12
 ·by_cases b:1<=p.mx/\p.mx<=12
  ·by_cases c:p.mx<p.mn
   ·rw[if_pos a,if_pos b,if_pos c];exact q0n _ _ _ _ w a b c
   ·by_cases d:0<=p.bears/\p.bears<=30
    ·by_cases f:1<=p.tall/\p.tall<=3
     ·rw[if_pos a,if_pos b,if_neg c,if_pos d,if_pos f];exact q0j _ _ _ _ w a b c d f
     ·rw[if_pos a,if_pos b,if_neg c,if_pos d,if_neg f];exact q0l _ _ _ _ w a b c d f
    ·rw[if_pos a,if_pos b,if_neg c,if_neg d];exact q0m _ _ _ _ w a b c d
  ·rw[if_pos a,if_neg b];exact q0o _ _ _ _ w a b
 ·rw[if_neg a];exact q0p _ _ _ _ w a
def KF(lo j:Nat)(T:qhu)(b:List Par)(a:Int)(w:qhr)(hY:q5e lo j w T b a)(b8:j<=w.heap.size) :qis Ya 53 #[T] w λe N=>e=.returned (.int .i64 (zt b a))/\w.gb N none:=by
 obtain⟨qv,rfl,I⟩:=hY;obtain⟨Y,X,rfl,b7,-⟩:=I.cell;by_cases L:5<b.length
 ·have f:=qhp (show zt b a=6 by unfold zt;rw[if_pos L]);have Q:(5:Int)<b.length:=by omega
  clear I;go_enter Tp.x53,Tryz.ntmps53;go_wp2;go_ret;exact⟨by rw[f];rfl,qhq _ _ _⟩
 ·have⟨A,w1,W,v,l,n⟩:=zo w (.cells #[.slice Y b.length X,a] 24);have S:=qhp (I.kept l);have⟨R,HA,s⟩:=ze v W l;have q0:=q8 n (o:=0) rfl;have q1:=q8 n (o:=1) rfl;have Q:¬ (5:Int)<b.length:=by omega
  clear I v W l n;go_enter Tp.x53,Tryz.ntmps53;go_upto_region 1 with(fail);rw[<- HA,<- R];go_wp2;go_loopw [3] (λO wr=>∃k:Nat,O=.int .i64 k/\k<=b.length/\(∀i p,i<k->b[i]?=some p->Q1 p=0)/\w1.gb wr none) (λO _=>(b.length - qiF O).toNat)
  case atStart=>exact⟨0,rfl,by omega,λi p j=>absurd j (by omega),qhD _ _⟩
  case round=>
   obtain⟨k,rfl,hk,x,D⟩:=hrel;have⟨d,M⟩:=qE x D;have F:=S.out.kept D;have a9:=D.cl q0;have a7:=D.cl q1;clear x D;by_cases B:k<b.length
   ·obtain⟨b2,c2,he,-,V⟩:=F.cell;cases he;obtain⟨YB,yo,rfl,c9,c8,c3,C⟩:=V (by intro e;rw[e] at B;simp at B);have⟨p,U,p0,p1,p2,p3⟩:=C k (by omega);have G:=qhp U;clear V C U F;by_cases H:Q1 p=0
    ·go_wp2_with (go_at_call 111;refine(xf p _).mono ?_;rintro e Z ⟨rfl,c⟩;rw[H];have r:=qhp c;clear c);go_roundw
     case rel=>
      refine⟨k+1,by simp,by omega,λi q j P=>?_,M.t r⟩;by_cases e:i=k
      ·subst e;rw[G] at P;cases P;exact H
      ·exact d i q (by omega) P
     case measure=>simp[qiF];omega
    ·have f:=qhp (show zt b a=Q1 p by
      unfold zt;rw[if_neg L,Yu _ b k p G (by simp[H]) (λi y j h=>by simp[d.out i y j h])])
     obtain⟨z,g⟩:∃z,Q1 p=z:=⟨_,rfl⟩;rw[g] at H f;have HZ:=qhp g;clear g;go_wp2_with (go_at_call 111;refine(xf p _).mono ?_;rintro e Z ⟨rfl,c⟩;rw[HZ];have r:=qhp c;clear c);go_ret;exact⟨by rw[f];rfl,(s.t M).t r⟩
   ·obtain rfl:k=b.length:=by omega
    by_cases u:1<=a/\a<=12
    ·have f:=qhp (show zt b a=0 by
      unfold zt;rw[if_neg L,QR _ b (λi y h=>by simp[d.out i y (qi3.1 h).1 h])];exact if_pos u)
     go_wp2_with (go_at_call 106;refine(kN _ _ _ _ u.1 u.2).mono ?_;rintro e N ⟨rfl,rfl⟩);go_ret;exact⟨by rw[f];rfl,s.t M⟩
    ·have f:=qhp (show zt b a=1 by
      unfold zt;rw[if_neg L,QR _ b (λi y h=>by simp[d.out i y (qi3.1 h).1 h])];exact if_neg u)
     have HL:=qhp u;clear u;go_wp2_with (go_at_call 106;refine(kO _ _ _ _ HL).mono ?_;rintro e N ⟨rfl,rfl⟩);go_ret;exact⟨by rw[f];rfl,s.t M⟩
def YF(a:List Par)(b:∀p∈a,0<=p.tall/\p.tall<=1000):∀(l:List Int) (k:Nat),k<=l.length->0<=qS a (l.take k)/\qS a (l.take k)<=1000*k
 | l,0,_=>by simp[qS]
 | l,k+1,e=>by
  have d:=YF a b l k (by omega);rw[xk a l k _ (qhz (show k<l.length by omega))];have f:0<=yA a l[k]/\yA a l[k]<=1000:=by
   unfold yA;split
   ·rename_i p c
    exact b p (qi9 c)
   ·omega
  omega
def q86(N R:Nat)(M qv:qhu)(a:List Par)(j:Int)(l:List Int)(w:qhr)(C:zi N R w M a)(D:qT N R w qv l)(O:∀x∈l,0<=x/\x<a.length)(P:∀p∈a,0<=p.tall/\p.tall<=1000)(hl:l.length<=1000) :qis Ya 108 #[.agg #[M,j],qv] w λe w'=>e=.returned (.int .i64 (qS a l))/\w.gb w' none:=by
 obtain⟨Z,Y,rfl,b6,-⟩:=C.cell;obtain⟨base,d5,rfl,c3,-⟩:=D.cell;have⟨A,w1,U,n,f,s⟩:=zo w (.cells #[.slice Z a.length Y,j] 24);have H:=qhp (C.kept f);have I:=qhp (D.kept f);have⟨F,HA,L,HX⟩:=j8 n U f O;have u:=qhp (YF a P l);have q0:=q8 s (o:=0) rfl;clear C D n U f s O P;go_enter Tp.x108,Tryz.ntmps108;go_upto_region 3 with(fail);rw[<- HA,<- F];go_wp2;go_loopw [5,6] (λtv v wr=>∃k:Nat,v=.int .i64 k/\k<=l.length/\tv=.int .i64 (qS a (l.take k))/\w1.gb wr none) (λ_ v _=>(l.length - qiF v).toNat)
 case atStart=>exact⟨0,rfl,by omega,by simp[qS],qhD _ _⟩
 case round=>
  obtain⟨k,rfl,hk,rfl,i⟩:=hrel;have X:=qhp i;by_cases b:k<l.length
  ·obtain⟨b1,c1,z,-,S⟩:=(I.kept i).cell;cases z;obtain⟨B,o,rfl,-,-,-,V⟩:=S (by intro e;rw[e] at b;simp at b);have W:=V k b;obtain⟨x,d⟩:∃x,l[k]?=some x:=⟨_,qhz b⟩;have⟨b7,h⟩:=HX.out x (qi9 d);rw[d] at W;simp only[qhC] at W;have c:=xk a l k x d;have y:=u.out k hk;obtain⟨m,rfl⟩:∃m:Nat,x=m:=⟨x.toNat,by omega⟩;obtain⟨b2,c2,z,-,q⟩:=(H.kept i).cell;cases z;obtain⟨YB,yo,rfl,-,-,-,r⟩:=q (by intro e;rw[e] at h;simp at h;omega);have⟨p,Q,p0,p1,p2,p3⟩:=r m (by omega);rw[show yA a m=p.tall by unfold yA;simp[Q]] at c;have g:=u.out (k+1) b;rw[c] at g;have a9:=i.cl q0;have b9:(m:Int)<(a.length:Int):=h;have c8:(k:Int)<(l.length:Int):=by omega
   generalize qS a (l.take k)=T at y c g ⊢;have b8:IntKind.i64.wrap (T+p.tall)=T+p.tall:=qin _ (by omega);have G:=qhp c;clear i S V q r Q d c;go_upto_region 5 with(fail);go_quiet (fail);go_wp2;go_roundw
   case rel=>exact⟨k+1,by simp,by omega,by rw[G],X.t (qk _ _ none)⟩
   case measure=>simp[qiF];omega
  ·obtain rfl:k=l.length:=by omega
   rw[qjs];clear i;go_wp2;go_ret;exact⟨rfl,L.t X⟩

end
section
open Go Go.RowKit Go.Co Go.Sim Go.Conc Go.ConcN
structure FChk(Z Y:Nat)(q:qhr):Prop where
 y:∀i,i<3->∃b c lm,∃qs:List Par,q.cell? ⟨Z,i*2,none⟩=some (.slice b qs.length c)/\q.cell? ⟨Z,i*2+1,none⟩=some (.int .i64 lm)/\zi 0 q.heap.size q (.slice b qs.length c) qs/\qs.length<=21
 l:∀k,k<3->∃b c,∃xs:List Int,q.cell? ⟨Y,k,none⟩=some (.slice b xs.length c)/\qT 0 q.heap.size q (.slice b xs.length c) xs/\xs.length<=21/\xs.length<=c
section
variable[J:JunkSet]{Post:qhu->qhr->Prop}{W:qhr}
end
end
section
open Go.RowKit
def qh5{a:List Par}{l:List Int}(c:∀x∈l,0<=x/\x<a.length):∀x∈l,0<=x/\(jE a)[x.toNat]?=some (pre Par.mn a a.length x.toNat,pre Par.mx a a.length x.toNat):=λx h=>by
 have d:=c x h;refine⟨d.1,?_⟩;have b:x.toNat<a.length:=by omega
 unfold jE;rw[qjE];unfold pre;rw[if_pos b,if_pos b,qhz b];rfl
def q51{a:List Par}{d:Int}{l:List Int}{i:Nat}{p:Par}(e:YOk a d)(f:a[(l[i]?.getD 0).toNat]?=some p) :(p.bears<loadAt (pre Par.mn a a.length) l i/\zM a (pre Par.mn a a.length) (pre Par.mx a a.length) l i=1) \/(¬ p.bears<loadAt (pre Par.mn a a.length) l i/\loadAt (pre Par.mx a a.length) l i<=p.bears/\zM a (pre Par.mn a a.length) (pre Par.mx a a.length) l i=2) \/(¬ p.bears<loadAt (pre Par.mn a a.length) l i/\¬ loadAt (pre Par.mx a a.length) l i<=p.bears/\zM a (pre Par.mn a a.length) (pre Par.mx a a.length) l i=3):=by
 have hm:=JL e.le l i;unfold zM yV;rw[f];simp only;by_cases b:loadAt (pre Par.mx a a.length) l i<=p.bears
 ·have c:loadAt (pre Par.mn a a.length) l i<=p.bears:=by omega
  exact .inr (.inl ⟨by omega,b,by rw[decide_eq_true b,decide_eq_true c];rfl⟩)
 ·by_cases c:loadAt (pre Par.mn a a.length) l i<=p.bears
  ·exact .inr (.inr ⟨by omega,b,by rw[decide_eq_false b,decide_eq_true c];rfl⟩)
  ·exact .inl ⟨by omega,by rw[decide_eq_false b,decide_eq_false c];rfl⟩
def Zu{a W:qhr}(h:a.gb W none)(b:qi4)(c:Array qhu):a.gb (W.alloc (.cells c b)) none/\(W.alloc (.cells c b)).heap[W.heap.size]?=some (.cells c b (0,0))/\a.heap.size<=W.heap.size:=⟨h.t (qhq _ _ none),qhA _ _,h.size⟩
def qgp{c W:qhr}{D:Nat}{a b u v:qhu}{d:qi4}(h:c.gb W none)(g:W.heap[D]?=some (.cells #[a,b] d (0,0)))(f:c.heap.size<=D):c.gb ((W.setCell D u).setCell ⟨D,1,none⟩ v) none/\((W.setCell D u).setCell ⟨D,1,none⟩ v).heap[D]?=some (.cells #[u,v] d (0,0)) :=
 ⟨h.andThen ((qh W D 0 u).t (qh _ D 1 v)) (by rintro j e;cases e;exact .inl f),qi (o:=1) (v:=v) (qi (o:=0) (v:=u) g)⟩
def q2B(la ha lb hb lc hc:Nat)(pv qv bv:qhu)(d:List Par)(G:Int)(l:List Int)(i:Nat)(w:qhr)(hP:zi la ha w pv d)(hI:qT lb hb w qv l)(hB:qK lc hc w bv (jE d))(S:YOk d G)(hx:∀x∈l,0<=x/\x<d.length)(hl:l.length<=1000)(N:i<l.length) :qis Ya 130 #[.agg #[pv,G],qv,bv,i] w λe w'=>e=.returned (.int .i64 (zM d (pre Par.mn d d.length) (pre Par.mx d d.length) l i))/\w.gb w' none:=by
 obtain⟨yb,U,rfl,h8,O⟩:=hP.cell;obtain⟨base,l4,rfl,k5,P⟩:=hI.cell;obtain⟨x,B⟩:∃x,l[i]?=some x:=⟨_,qhz N⟩;have h9:=hx x (qi9 B);obtain⟨m,rfl⟩:∃m:Nat,x=m:=⟨x.toNat,by omega⟩;have hm:m<d.length:=by omega
 obtain⟨R,I,rfl,-,-,-,h4⟩:=O (by intro e;rw[e] at hm;simp at hm);obtain⟨p,M,-,-,Z,-⟩:=h4 m hm;obtain⟨LB,lo,rfl,-,-,-,h5⟩:=P (by intro e;rw[e] at N;simp at N);have T:=h5 i N;rw[B] at T;simp only[qhC] at T;have C:=q51 (i:=i) (l:=l) S (p:=p) (by rw[B];simpa using M);have⟨A,q,hA,L,r,Q⟩:=zo w (.cells #[.slice (some ⟨R,I,none⟩) d.length U,G] 24);have y:=qhp λ(W:qhr) (h:q.gb W none)=>q8E lb hb lc hc _ _ l (jE d) _ _ i W (hI.kept (r.t h)) (hB.kept (r.t h)) (qh5 hx) S.mn S.mx hl N;generalize loadAt (pre Par.mn d d.length) l i=a at C y;generalize loadAt (pre Par.mx d d.length) l i=b at C y;generalize zM d (pre Par.mn d d.length) (pre Par.mx d d.length) l i=z at C ⊢;generalize p.bears=c at C Z;have k:=qhp (show ∀W,q.gb W none->W.cell? A=some (.slice (some ⟨R,I,none⟩) d.length U)/\W.cell? ⟨LB,lo+i,none⟩=some (.int .i64 m)/\W.cell? ⟨R,I+m*4+2,none⟩=some (.int .i64 c) from λW h=>⟨q8 (bk h Q) rfl,(r.t h).cl T,(r.t h).cl Z⟩);have k7:(i:Int)<(l.length:Int):=by omega
 have k0:(m:Int)<(d.length:Int):=by omega
 have⟨H3,b6,HA,b8⟩:=j8 C L hA r;clear hP hI hB O P h4 h5 T Z B M C L hA r Q hx S;go_enter Tp.x130,Tryz.ntmps130;go_upto_region 1 with(fail);rw[<- HA,<- b6];go_cut [9,10] from 11 to 34 (λv9 V wx=>∃D,v9=.pointer (some ⟨D,0,none⟩)/\V=.int .i64 c/\q.gb wx none/\wx.heap[D]?=some (.cells #[a,b] 26 (0,0)))
 case first=>
  have f:=qhp (qe q none);refine qz 15 (λW=>W.cell? A=some (.slice (some ⟨R,I,none⟩) d.length U)/\W.cell? ⟨LB,lo+i,none⟩=some (.int .i64 m)/\W.cell? ⟨R,I+m*4+2,none⟩=some (.int .i64 c)) (by kernel_rfl) (by kernel_rfl) (k _ f) (λhHeld=>?_);simp only[qhE,qi1,qib,qiA,qi6,qie,qif,qio,qii,qi7];refine tk 0 (h:=tk 1 (h:=tk 2 (h:=tk 4 (h:=tk 5 (h:=tk 6 (h:=tk 7 (h:=tk 8 (h:=tk 9 (h:=tk 10 (h:=tk 11 (h:=tk 12 (h:=?_))))))))))));try go_frame
  refine rdy [3,13] ?_;refine cns 3 (λK s=>?_) ?_
  ·skip;go_simp;go_at_call 105;refine(y _ f).mono ?_;rintro e F ⟨rfl,n⟩;replace f:=qhp (f.t n)
   (try replace j:=qhp (bk n j))
   clear n;refine s.out _ _ (k _ f) (λhHeld=>?_);refine rdc 13 λK s=>?_;go_simp;have g:=qhp (show q.gb (F.alloc (.cells #[.int .i64 0,.int .i64 0] 26)) none/\(F.alloc (.cells #[.int .i64 0,.int .i64 0] 26)).heap[F.heap.size]?=some (.cells #[.int .i64 0,.int .i64 0] 26 (0,0))/\q.heap.size<=F.heap.size from Zu f 26 _);generalize F.alloc (.cells #[.int .i64 0,.int .i64 0] 26)=WN at g ⊢;generalize F.heap.size=D at g ⊢;replace f:=qhp g.1;have j:=qhp g.2.1;have H:=qhp g.2.2;clear g;refine s.out _ _ (k _ f) (λhHeld=>?_);refine rdc 14 λK s=>?_;have Y:=qn j (o:=0);have X:=qn j (o:=1);have c0:=q8 j (o:=0) rfl;have c1:=q8 j (o:=1) rfl;go_simp;have g:=qhp (qgp (u:=.int .i64 a) (v:=.int .i64 b) f j H);replace f:=qhp g.1;replace j:=qhp g.2;clear Y X c0 c1 g;refine s.out _ _ (k _ f) (λhHeld=>?_);try go_frame
   refine⟨by kernel_rfl,?_⟩;simp only[qig,qit];go_wp2;go_meet;exact⟨_,rfl,rfl,f,j⟩
  refine cns 13 (λK s=>?_) ?_
  ·skip;go_simp;have g:=qhp (show q.gb ((q.alloc (.cells #[.int .i64 0,.int .i64 0] 26)).drew) none/\((q.alloc (.cells #[.int .i64 0,.int .i64 0] 26)).drew).heap[q.heap.size]?=some (.cells #[.int .i64 0,.int .i64 0] 26 (0,0))/\q.heap.size<=q.heap.size from Zu f 26 _);generalize (q.alloc (.cells #[.int .i64 0,.int .i64 0] 26)).drew=WN at g ⊢;replace f:=qhp g.1;have j:=qhp g.2.1;have H:=qhp g.2.2;clear g;refine s.out _ _ (k _ f) (λhHeld=>?_);refine rdc 3 λK s=>?_;go_simp;go_at_call 105;refine(y _ f).mono ?_;rintro e F ⟨rfl,n⟩;replace f:=qhp (f.t n)
   (try replace j:=qhp (bk n j))
   clear n;refine s.out _ _ (k _ f) (λhHeld=>?_);refine rdc 14 λK s=>?_;have Y:=qn j (o:=0);have X:=qn j (o:=1);have c0:=q8 j (o:=0) rfl;have c1:=q8 j (o:=1) rfl;go_simp;have g:=qhp (qgp (u:=.int .i64 a) (v:=.int .i64 b) f j H);replace f:=qhp g.1;replace j:=qhp g.2;clear Y X c0 c1 g;refine s.out _ _ (k _ f) (λhHeld=>?_);try go_frame
   refine⟨by kernel_rfl,?_⟩;simp only[qig,qit];go_wp2;go_meet;exact⟨_,rfl,rfl,f,j⟩
  exact qP.nil
 case rest=>
  obtain⟨D,rfl,rfl,hg,hD⟩:=hcut;have z0:=q8 hD (o:=0) rfl;have z1:=q8 hD (o:=1) rfl;have b7:=qhp (b8.t hg);have C:=H3.out;clear hg hD H3 k y;rcases C with⟨e1,rfl⟩ | ⟨e1,e2,rfl⟩ | ⟨e1,e2,rfl⟩;all_goals
   go_wp2;go_ret;exact⟨rfl,b7⟩
def q8d{a:List Par}{d:Int}(g:YOk a d){l:List Int}{k:Nat}(q:∀j,j<k->zM a (pre Par.mn a a.length) (pre Par.mx a a.length) l j≠1) :((∀j,j<k->zM a (pre Par.mn a a.length) (pre Par.mx a a.length) l j=2)->k=l.length->jg a l=1)/\((∃j,j<k/\zM a (pre Par.mn a a.length) (pre Par.mx a a.length) l j=3)->k=l.length->jg a l=3):=by
 have f:∀j,zM a (pre Par.mn a a.length) (pre Par.mx a a.length) l j=q3c (!yV a (pre Par.mn a a.length) l j) (!yV a (pre Par.mx a a.length) l j):=λj=>rfl;have hm:∀j,yV a (pre Par.mx a a.length) l j=true->yV a (pre Par.mn a a.length) l j=true:=λj h=>q1d g.le h;refine⟨λc e=>?_,λ⟨j,i,c⟩ e=>?_⟩
 ·have b:qx a (pre Par.mx a a.length) l=true:=yB.2 λj i=>by
   have:=c j (by omega);rw[f] at this;revert this;cases yV a (pre Par.mn a a.length) l j<;>cases yV a (pre Par.mx a a.length) l j<;>decide
  unfold jg;rw[b,xn g.le b];rfl
 ·have o:qx a (pre Par.mn a a.length) l=true:=yB.2 λj i=>by
   have:=q j (by omega);rw[f] at this;have p:=hm j;revert this p;cases yV a (pre Par.mn a a.length) l j<;>cases yV a (pre Par.mx a a.length) l j<;>decide
  have b:qx a (pre Par.mx a a.length) l=false:=by
   refine qm2.2 λh=>?_;have n:=yB.1 h j (by omega);rw[f,n,hm j n] at c;exact absurd c (by decide)
  unfold jg;rw[b,o];rfl
def q5v{a:List Par}{c:Int}(e:YOk a c){l:List Int}{k:Nat}(g:k<l.length)(b:zM a (pre Par.mn a a.length) (pre Par.mx a a.length) l k=1):jg a l=2:=by
 have d:qx a (pre Par.mn a a.length) l=false:=by
  refine qm2.2 λh=>?_;have i:=yB.1 h k g;have b:q3c (!yV a (pre Par.mn a a.length) l k) (!yV a (pre Par.mx a a.length) l k)=1:=b;rw[i] at b;revert b;cases yV a (pre Par.mx a a.length) l k<;>decide
 have f:qx a (pre Par.mx a a.length) l=false:=qm2.2 λh=>by rw[xn e.le h] at d;cases d
 unfold jg;rw[f,d];rfl
def q9q(a:List Par)(b gx:Nat->Int)(l:List Int)(k:Nat):zM a b gx l k=1\/zM a b gx l k=2\/zM a b gx l k=3:=by
 unfold zM;cases yV a b l k<;>cases yV a gx l k<;>decide
def q3t(la ha Z hb Y hc:Nat)(V qv bv:qhu)(a:List Par)(g:Int)(l:List Int)(w:qhr)(Q:zi la ha w V a)(R:qT Z hb w qv l)(hB:qK Y hc w bv (jE a))(P:YOk a g)(hx:∀x∈l,0<=x/\x<a.length)(hl:l.length<=1000) :qis Ya 131 #[.agg #[V,g],qv,bv] w λe w'=>e=.returned (.int .i64 (jg a l))/\w.gb w' none:=by
 obtain⟨yb,yc,rfl,e6,-⟩:=Q.cell;obtain⟨base,g5,rfl,e7,-⟩:=R.cell;have⟨A,U,hA,C,d,s⟩:=zo w (.cells #[.slice yb a.length yc,g] 24);have q0:=q8 s (o:=0) rfl;have q1:=q8 s (o:=1) rfl;have H:=qhp λ(W:qhr) (h:U.gb W none) (i:Nat) (hi:i<l.length)=>q2B la ha Z hb Y hc _ _ _ a g l i W (Q.kept (d.t h)) (R.kept (d.t h)) (hB.kept (d.t h)) P hx hl hi;have⟨HY,T,HA,v⟩:=j8 P C hA d;obtain⟨f,r⟩:∃f,f=zM a (pre Par.mn a a.length) (pre Par.mx a a.length) l:=⟨_,rfl⟩;rw[<- r] at H;have G:=qhp r;clear Q R hB C hA d s hx P r;go_enter Tp.x131,Tryz.ntmps131;go_upto_region 1 with(fail);rw[<- HA,<- T];go_wp2;go_loopw [7,8] (λX N wr=>∃k:Nat,N=.int .i64 k/\k<=l.length/\U.gb wr none/\(∀j,j<k->f j≠1)/\((X=.int .i64 1/\∀j,j<k->f j=2)\/(X=.int .i64 3/\∃j,j<k/\f j=3))) (λ_ N _=>(l.length - qiF N).toNat)
 case atStart=>exact⟨0,rfl,by omega,qhD _ _,λj h=>by omega,.inl ⟨rfl,λj h=>by omega⟩⟩
 case round=>
  obtain⟨k,rfl,hk,B,p,n⟩:=hrel;have M:=qhp B;have e4:=B.cl q0;have d8:=B.cl q1;have HN:=qhp p;by_cases D:k<l.length
  ·have a8:(k:Int)<(l.length:Int):=by omega
   have I:=qhp (show f k=1\/f k=2\/f k=3 by rw[G];exact q9q _ _ _ _ _);have y:=qhp (H wr B k D);have F:=qhp (show f k=1->jg a l=2 from λh=>q5v HY D (by rw[<- G];exact h));obtain⟨z,O⟩:∃z,z=f k:=⟨_,rfl⟩;rw[<- O] at y I F;have⟨S,q⟩:=qE O n;clear B p O n;rcases I with rfl | rfl | rfl
   ·rcases q with⟨rfl,b⟩ | ⟨rfl,b⟩;all_goals
     clear b;go_wp2_with (go_at_call 130;refine y.mono ?_;rintro e w3 ⟨rfl,c⟩;have u:=qhp c;clear c);go_ret;exact⟨by rw[F (by first | rfl | trivial)];rfl,(v.t M).t u⟩
   all_goals
    rcases q with⟨rfl,b⟩ | ⟨rfl,b⟩;all_goals
     have L:=qhp b;clear b;go_wp2_with (go_at_call 130;refine y.mono ?_;rintro e w3 ⟨rfl,c⟩;have u:=qhp c;clear c);go_roundw
     case rel=>
      refine⟨k+1,by simp,by omega,M.t u,λj h=>?_,?_⟩
      ·by_cases e:j=k
       ·rw[e,<- S];decide
       ·exact HN j (by omega)
      ·first
        | exact .inl ⟨rfl,λj h=>by
          by_cases e:j=k
          ·rw[e,<- S]
          ·exact L j (by omega)⟩
        | exact .inr ⟨rfl,k,by omega,S.symm⟩
        | exact .inr ⟨rfl,let ⟨j,h1,b⟩:=L.out;⟨j,by omega,b⟩⟩
     case measure=>simp[qiF];omega
  ·obtain rfl:k=l.length:=by omega
   have HS:=qhp (q8d HY (by rw[<- G];exact p));have q:=qhp n;clear B p n;rcases q with⟨rfl,b⟩ | ⟨rfl,b⟩;all_goals
    have L:=qhp b;clear b;go_wp2;go_ret
   ·exact⟨by rw[HS.1 (by rw[<- G];exact L) (by first | rfl | trivial)];rfl,v.t M⟩
   ·exact⟨by rw[HS.2 (by rw[<- G];exact L) (by first | rfl | trivial)];rfl,v.t M⟩
def q9e(o lb:Nat)(Q qv:qhu)(b:List Par)(a:Int)(l:List Int)(w:qhr)(z:zi o w.heap.size w Q b)(I:qT o w.heap.size w qv l)(q:YOk b a)(M:∀x∈l,0<=x/\x<b.length)(S:l.length<=1000) :qis Ya 132 #[.agg #[Q,a],qv] w λe Y=>e=.returned (.bool (zl b a l))/\w.gb Y none:=by
 obtain⟨H,G,rfl,Z,-⟩:=z.cell;obtain⟨base,a9,rfl,a7,-⟩:=I.cell;have⟨A,n,U,r,d,j⟩:=zo w (.cells #[.slice H b.length G,a] 24);have h5:=q.len;have s:∀p∈b,0<=p.tall/\p.tall<=1000:=λp hp=>by have:=q.each p hp;omega
 have k:=qhp λ(W:qhr) (h:n.gb W none)=>q86 o w.heap.size _ _ b a l W (z.kept (d.t h)) (I.kept (d.t h)) M s S;have P:=qhp λ(W:qhr) (h:n.gb W none)=>q26 o w.heap.size _ b a W ⟨_,rfl,z.kept (d.t h)⟩ (by omega);have D:=qhp λ(W:qhr) (h:n.gb W none) (R T:Nat) (O:qhu) (hB:qK R T W O (jE b))=>q3t o w.heap.size o w.heap.size R T _ _ O b a l W (z.kept (d.t h)) (I.kept (d.t h)) hB q M S;have g:=qhp (show ∀W,n.gb W none->W.cell? A=some (.slice H b.length G)/\W.cell? ⟨A,1,none⟩=some (.int .i64 a) from λW h=>⟨q8 (bk h j) rfl,q8 (bk h j) rfl⟩);have L:=qhp (show zl b a l=(decide (qS b l<=a) && (jg b l == 1)) by
  unfold zl jg;cases h:qx b (pre Par.mx b b.length) l
  ·cases qx b (pre Par.mn b b.length) l<;>simp[q3c]
  ·rw[xn q.le h];rfl)
 have⟨C,V,F⟩:=ze r U d;clear z I r U d j M q s;generalize qS b l=t at k L;generalize jg b l=v at D L;by_cases N:t<=a
 ·go_enter Tp.x132,Tryz.ntmps132;go_upto_region 1 with(fail);rw[<- V,<- C];have c:=qhp (qe n none);refine qz 11 (λW=>W.cell? A=some (.slice H b.length G)/\W.cell? ⟨A,1,none⟩=some (.int .i64 a)) (by kernel_rfl) (by kernel_rfl) (g _ c) (λhHeld=>?_);simp only[qhE,qi1,qib,qiA,qi6,qie,qif,qio,qii,qi7];refine tk 0 (h:=tk 1 (h:=tk 3 (h:=tk 4 (h:=?_))));try go_frame
  refine rdc 2 λK B=>?_;go_simp;go_at_call 108;refine(k _ c).mono ?_;rintro e X ⟨rfl,f⟩;replace c:=qhp (c.t f);clear f;refine B.out _ _ (g _ c) (λhHeld=>?_);refine tk 5 (h:=tk 6 (h:=tk 7 (h:=tk 8 (h:=tk 9 (h:=?_)))));try go_frame
  refine rdc 10 λK B=>?_;go_simp;go_at_call 89;refine(P _ c).mono ?_;rintro e w5 ⟨O,rfl,y,i⟩;replace c:=qhp (c.t y);have HB:=qhp i;obtain⟨bb,bc,rfl,-,-⟩:=i.cell;clear y i;refine B.out _ _ (g _ c) (λhHeld=>?_);try go_frame
  refine⟨by kernel_rfl,?_⟩;simp only[qig,qit];have c0:=hHeld.1;have c1:=hHeld.2;clear hHeld;go_wp2_with (go_at_call 131;refine(D _ c _ _ _ HB).mono ?_;rintro e w6 ⟨rfl,u⟩;have G6:=qhp u;clear u);go_ret;exact⟨by rw[L,decide_eq_true N];rfl,(F.t c).t G6⟩
 ·go_enter Tp.x132,Tryz.ntmps132;go_upto_region 1 with(fail);rw[<- V,<- C];have c:=qhp (qe n none);refine qz 11 (λW=>W.cell? A=some (.slice H b.length G)/\W.cell? ⟨A,1,none⟩=some (.int .i64 a)) (by kernel_rfl) (by kernel_rfl) (g _ c) (λhHeld=>?_);simp only[qhE,qi1,qib,qiA,qi6,qie,qif,qio,qii,qi7];refine tk 0 (h:=tk 1 (h:=tk 3 (h:=tk 4 (h:=?_))));try go_frame
  refine rdc 2 λK B=>?_;go_simp;go_at_call 108;refine(k _ c).mono ?_;rintro e X ⟨rfl,f⟩;replace c:=qhp (c.t f);clear f;refine B.out _ _ (g _ c) (λhHeld=>?_);refine tk 5 (h:=tk 6 (h:=tku 7 (h:=tku 8 (h:=tku 9 (h:=tku 10 (h:=?_))))));try go_frame
  refine⟨by kernel_rfl,?_⟩;simp only[qig,qit];clear hHeld;go_wp2;go_ret;exact⟨by rw[L,decide_eq_false (by omega)];rfl,F.t c⟩


def qeA{f g:Nat}{w:qhr}{d:qiG}{c:Nat}{l:List Int}(h:qT f g w (.slice (some d) l.length c) l):∀j u,(l.map (qid .i64))[j]?=some u->w.cell? (d.add j)=some u:=λj u a=>by
 obtain⟨_,_,e,-,i⟩:=h;cases e;rw[qjE] at a;cases hj:l[j]? with
 | none=>rw[hj] at a;cases a
 | some x=>
  rw[hj] at a;cases a;have b:=(qi3.1 hj).1;obtain⟨B,o,e,-,-,-,k⟩:=i (by rintro rfl;simp at b);cases e;have:=k j b;rw[hj] at this;exact kf this
def Qf{d:Array qjn}{o:qjn}{a:Act}{w:qhr}{K:Act->qhr->Prop}{Q:Exit->Act->qhr->Prop}{E:Prop}(s x:qiy){F I L g n:Nat}{p:Option qiG}{l:List Int}(C:qT F I w (.slice p l.length n) l)(B:w.heap[g]?=some (.cells #[] 3 (0,0)))(N:L<=g)(S:l.length<=1000)(h:∀r q k,k.ownsRow L 3 1 (.slice r l.length q) l.length (l.map (qid .i64))->w.gb k (some g)->K (a.put o.dst (.slice r l.length q)) k)(i:qip o (qjt d a.tmps)=true:=by kernel_rfl)(ho:o.op=.call { callee:=.builtin .append,args:=#[s,x],argTypes:=#[29,29] }:=by rfl)(hs:a.eval s=.slice (some g) 0 0:=by rfl)(hx:a.eval x=.slice p l.length n:=by rfl) :if qip o (qjt d a.tmps)=true then Oper.wp Ya o a w K Q else E:=by
 have⟨G,f,y,v,t⟩:=qjx Tp.info3p;have b:w.ownsRow L 3 1 (.slice (some g) 0 0) 0 []:=⟨rfl,.inr ⟨g,0,#[],rfl,N,B,qhv _,by decide,rfl,rfl⟩⟩;have M:=(qhs.1 B).1;rcases p with _ | R
 ·obtain rfl:l=[]:=qj6 λH=>by obtain⟨_,_,e,-,j⟩:=C;cases e;have⟨_,_,e,_⟩:=j H;cases e
  rw[if_pos i];unfold Oper.wp qkA;simp only[ho,resolve,invoke,builtin,qjo,qmo,qjl,qmc,qll,qmq,hs,hx,qi1,run_append_nil Tp.und29' f];exact h _ _ _ b (qhD _ _)
 ·refine vK i s x 29 ho L 3 G _ 1 8 Tp.und29' f y v t rfl (by decide) _ 0 [] hs b R l.length n (l.map (qid .i64)) hx (by simp) (qeA C) (by intro u A;simp at A;obtain⟨x,_,rfl⟩:=A;rfl) (by unfold qlg;omega) (by omega) (by omega) λD k j O=>?_;obtain⟨r,q,rfl⟩:∃a c,D=.slice a l.length c:=by
   rcases j.2 with⟨rfl,T⟩ | ⟨g,z,P,rfl,_⟩
   ·exact⟨none,0,by rw[show l.length=0 by omega]⟩
   ·exact⟨_,z,by rw[qi6]⟩
  rw[qi6,qii] at j;exact h _ _ _ j O
def Je{b:Array qjn}{o:qjn}{a:Act}{w:qhr}{K:Act->qhr->Prop}{Q:Exit->Act->qhr->Prop}{E:Prop}(s x:qiy){L G n i:Nat}{j:Option qiG}{f:List qhu}{p:Int}(d:w.ownsRow L 3 1 (.slice j n i) n f)(z:w.heap[G]?=some (.cells #[p] 3 (0,0)))(C:n<=1000)(y:L<=w.heap.size)(h:∀g c e,e.ownsRow L 3 1 (.slice (some ⟨g,0,none⟩) (n+1) c) (n+1) (f++[.int .i64 p])->w.gb e (qjc j n i).ownBlock->K (a.put o.dst (.slice (some ⟨g,0,none⟩) (n+1) c)) e)(t:qip o (qjt b a.tmps)=true:=by kernel_rfl)(ho:o.op=.call { callee:=.builtin .append,args:=#[s,x],argTypes:=#[29,29] }:=by rfl)(hs:a.eval s=.slice j n i:=by rfl)(hx:a.eval x=.slice (some G) 1 1:=by rfl) :if qip o (qjt b a.tmps)=true then Oper.wp Ya o a w K Q else E:=by
 have⟨v,r,q,l,k⟩:=qjx Tp.info3p;refine vK t s x 29 ho L 3 v _ 1 8 Tp.und29' r q l k rfl (by decide) _ n f hs d ⟨G,0,none⟩ 1 1 [.int .i64 p] hx rfl (qje z) (by simp[qjD]) (by unfold qlg;omega) (by omega) y λB e u A=>?_;obtain⟨g,c,rfl⟩:=qn6 u;exact h _ _ _ u A
def q25(lo hi:Nat)(v:qhu)(l:List Int)(x:Int)(w:qhr)(R:qT lo hi w v l)(hl:l.length<=1000) :qis Ya 158 #[v,x] w λe u=>∃z,e=.returned z/\w.gb u none/\qg w.heap.size u.heap.size u z (l.filter λy=>y != x):=by
 have⟨i0,H,G,D,C⟩:=qjx Tp.info3p;obtain⟨b,c,rfl,a9,Q⟩:=R.cell;have HC:=qhp Q;obtain⟨F,q⟩:∃F,F=λk=>(l.take k).filter (λy=>y != x):=⟨_,rfl⟩;have n:=qhp (show F 0=[] by rw[q];rfl);have O:=qhp (show ∀k y,l[k]?=some y->F (k+1)=F k++(if(y != x)=true then[y] else[]) from λk y g=>by
  rw[q];simp only;rw[qj7,g,qmh];simp only[Option.toList_some,qox,List.filter_nil])
 have P:=qhp (show F l.length=l.filter (λy=>y != x) by rw[q];simp);clear Q R q;go_enter Tp.x158,Tryz.ntmps158;go_wp2;go_loopw [5,6] (λW A wr=>∃k:Nat,A=.int .i64 k/\k<=l.length/\w.gb wr none/\wr.ownsRow w.heap.size 3 1 W (F k).length ((F k).map (qid .i64))/\(F k).length<=k) (λ_ A _=>(l.length - qiF A).toNat)
 case atStart=>exact⟨0,rfl,by omega,qhD _ _,by rw[n];simpa using qjF _ _ _ _,by rw[n];exact qhv _⟩
 case round=>
  obtain⟨k,rfl,hk,h,p,I⟩:=hrel;obtain⟨Z,X,Y,rfl⟩:=zB p;have⟨N,r⟩:=qE h p;have a8:=h.size;by_cases f:k<l.length
  ·obtain⟨B,o,rfl,-,-,-,S⟩:=HC.out (by intro e;rw[e] at f;simp at f);have U:=h.cl (S k f);obtain⟨y,g⟩:∃y,l[k]?=some y:=⟨_,qhz f⟩;rw[g] at U;simp only[qhC] at U;have b0:(k:Int)<(l.length:Int):=by omega
   have s:=qhp (O k y g);clear S g h p;by_cases e:y=x
   ·have i:(y != x)=false:=by simp[e]
    clear e;go_wp2;go_roundw
    case rel=>
     refine⟨k+1,by simp,by omega,N,?_,?_⟩
     ·rw[s,i];simpa using r.out
     ·rw[s,i];simp;omega
    case measure=>simp[qiF];omega
   ·have i:(y != x)=true:=by simp[e]
    clear e;go_wp2_with (at_builtin;(refine wpList_append_own _ rfl _ _ 29 rfl w.heap.size 3 i0 _ 1 8 Tp.und29' H G D C rfl (by decide) (.slice Z X Y) (F k).length _ rfl (r.alloc _) ⟨wr.heap.size,0,none⟩ 1 1 [.int .i64 y] rfl rfl (qje (cs:=#[.int .i64 y]) (t:=3) (fr:=(0,0)) (qhA wr _)) (by simp[qjD]) (by unfold qlg;omega) (by omega) (by simp;omega) ?_);intro z w7 a d _;obtain⟨g',V,rfl⟩:=qn6 a;have L:=qhp a;have M:=qhp d;clear a d);go_roundw
    case rel=>
     refine⟨k+1,by simp,by omega,(N.t (qhq _ _ none)).andThen M (λj e=>.inl (r.lt j e).1),?_,?_⟩
     ·rw[s,i];simpa using L.out
     ·rw[s,i];simp;omega
    case measure=>simp[qiF];omega
  ·obtain rfl:k=l.length:=by omega
   clear h p;go_wp2;go_ret;have T:=r.out;rw[P] at T I;exact⟨_,rfl,N,qg.own T (by omega)⟩
def Kw(u:Option qiG)(n s:Nat)(f:Int)(w:qhr)(hn:n<=1000) :qis Ya 118 #[.agg #[.slice u n s,f]] w λe x=>∃v,e=.returned v/\w.gb x none/\qg w.heap.size x.heap.size x v (qO n)/\∀b k c,v=.slice b k c->k<=c:=by
 have⟨T,C,B,A,z⟩:=qjx Tp.info3p;have⟨Y,p,I,g,h,l⟩:=zo w (.cells #[.slice u n s,f] 24);have O:p.cell? Y=some (.slice u n s):=q8 l rfl;have⟨D,W,o⟩:=ze g I h;clear g I h l;go_enter Tp.x118,Tryz.ntmps118;go_upto_region 1 with(fail);rw[<- W,<- D];go_wp2;go_loopw [3,4] (λP y wr=>∃k:Nat,y=.int .i64 k/\k<=n/\p.gb wr none/\wr.ownsRow p.heap.size 3 1 P k ((qO k).map (qid .i64))) (λ_ y _=>(n - qiF y).toNat)
 case atStart=>exact⟨0,rfl,by omega,qhD _ _,qjF _ _ _ _⟩
 case round=>
  obtain⟨k,rfl,hk,i,q⟩:=hrel;obtain⟨S,Q,R,rfl⟩:=zB q;have⟨M,r⟩:=qE i q;have U:=i.size;have N:=i.cl O;by_cases V:k<n
  ·have H:(k:Int)<(n:Int):=by omega
   clear i q;go_wp2_with (at_builtin;(refine wpList_append_own _ rfl _ _ 29 rfl p.heap.size 3 T _ 1 8 Tp.und29' C B A z rfl (by decide) (.slice S Q R) k _ rfl (r.alloc _) ⟨wr.heap.size,0,none⟩ 1 1 [.int .i64 k] rfl rfl (qje (cs:=#[.int .i64 k]) (t:=3) (fr:=(0,0)) (qhA wr _)) (by simp[qjD]) (by unfold qlg;omega) (by omega) (by simp;omega) ?_);intro Z X a d _;obtain⟨g',L,rfl⟩:=qn6 a;have F:=qhp a;have G:=qhp d;clear a d);go_roundw
   case rel=>
    refine⟨k+1,by simp,by omega,(M.t (qhq _ _ none)).andThen G (λj e=>.inl (r.lt j e).1),?_⟩;rw[q1e,qk1];exact F
   case measure=>simp[qiF];omega
  ·obtain rfl:k=n:=by omega
   clear i q;go_wp2;go_ret;exact⟨_,rfl,o.t M,(qg.own r (by rw[z6];omega)).mono o.size (qhv _),λb k c e=>by cases e;exact Yp r⟩
end
section
def qbr(n:Nat):Nat->List (List Int)
 | 0=>[[]]
 | k+1=>(qil n).flatMap λ(i:Nat)=>(qbr n k).map λl=>(i:Int)::l
def qfx(l:List Int)(k:Nat):Bool:=(qil k).all λ(i:Nat)=>l.contains (i:Int)
def qdq(n:Nat):List (List Int):=(qbr n n).filter λl=>qfx l n
end
section
open Go.RowKit

def Tp.und36L:Ya.underlying 36=some (.slice 29):=by rw[Tp.und];exact Tryz.underlying36
def Tp.info29L:(Ya.info? 29).map (λi=>(i.zero,i.size,i.bytes))=some (some (.slice none 0 0),1,24):=by kernel_rfl
def qg.kept_own{i j base n:Nat}{e:qi4}{w f:qhr}{v x:qhu}{l:List Int}{q:List qhu}(h:qg i j w x l)(s:w.ownsRow base e 1 v n q)(u:e≠3)(k:w.gb f v.ownBlock):qg i j f x l:=by
 rcases s.2 with⟨rfl,-⟩ | ⟨g,H,F,rfl,-,a,-⟩
 ·exact h.kept k (by simp[qix])
 ·obtain⟨b,c,rfl,t,r⟩:=h;refine⟨b,c,rfl,t,λd=>?_⟩;have⟨B,o,G,y,D,C,A,p,z⟩:=r d;refine⟨B,o,G,y,D,C,A,blk k (λh=>?_) p,z⟩;simp[qix] at h;subst h;rw[p] at a;cases a;exact u rfl
def qQ(base:Nat)(w:qhr)(v:qhu)(L:List (List Int)):Prop :=
 ∃a:List qhu,w.ownsRow base 29 1 v L.length a/\∀(j:Nat) x l,a[j]?=some x->L[j]?=some l->qg 0 w.heap.size w x l
def qQ.kept{base:Nat}{w w':qhr}{v:qhu}{L:List (List Int)}(h:qQ base w v L)(a:w.gb w' none):qQ base w' v L:=by
 obtain⟨d,i,g⟩:=h;exact⟨d,qbb i a,λj x l e f=>((g j x l e f).kept a).mono (qhv _) a.size⟩
def qQ.nil(base:Nat)(w:qhr):qQ base w (.slice none 0 0) []:=⟨[],qjF _ _ _ _,λj x l a=>by simp at a⟩
def qQ.low{base a:Nat}{w:qhr}{v:qhu}{L:List (List Int)}(h:qQ base w v L)(c:a<=base):qQ a w v L:=by
 obtain⟨b,e,d⟩:=h;exact⟨b,K4 e c,d⟩
def qQ.push{base:Nat}{w d:qhr}{v h x:qhu}{L:List (List Int)}{l:List Int}{b:List qhu}(g:w.ownsRow base 29 1 v L.length b)(p:∀(j:Nat) x l,b[j]?=some x->L[j]?=some l->qg 0 w.heap.size w x l)(k:qg 0 w.heap.size w x l)(o:d.ownsRow base 29 1 h (L.length+1) (b++[x]))(c:w.gb d v.ownBlock):qQ base d h (L++[l]):=by
 have f:b.length=L.length:=by have:=g.1;simpa using this
 refine⟨b++[x],by simpa using o,λj y m a hm=>?_⟩;by_cases e:j<L.length
 ·rw[qir (by omega)] at a;rw[qir e] at hm;exact((p j y m a hm).kept_own g (by decide) c).mono (qhv _) c.size
 ·rw[qjv (by omega)] at a hm;have i:j - L.length=0:=by
   have:=(qi3.1 hm).1;simp at this;omega
  rw[f,i] at a;rw[i] at hm;simp at a hm;subst a hm;exact(k.kept_own g (by decide) c).mono (qhv _) c.size
def qQ.at{base:Nat}{w:qhr}{v:qhu}{L:List (List Int)}(h:qQ base w v L):∃a c,v=.slice a L.length c/\(0<L.length->∃g,a=some ⟨g,0,none⟩/\∀(j:Nat) l,L[j]?=some l->∃x,w.cell? ⟨g,j,none⟩=some x/\qg 0 w.heap.size w x l):=by
 obtain⟨b,f,r⟩:=h;have i:b.length=L.length:=by have:=f.1;simpa using this
 obtain⟨a,c,rfl,q⟩:=kA f;refine⟨a,c,rfl,λn=>?_⟩;obtain⟨g,rfl,-,-,p⟩:=q n;refine⟨g,rfl,λj l e=>?_⟩;have o:=(qi3.1 e).1;obtain⟨x,d⟩:∃x,b[j]?=some x:=⟨_,qhz (by omega)⟩;exact⟨x,(p j o).t d,r j x l d e⟩
def qQ.one(w:qhr):qQ w.heap.size (w.alloc (.cells #[.slice none 0 0] 29)) (.slice (some w.heap.size) 1 1) [[]]:=by
 refine⟨[.slice none 0 0],⟨rfl,.inr ⟨_,1,_,rfl,qhv _,qhA w _,qhv _,by decide,rfl,rfl⟩⟩,λj x l a b=>?_⟩;have c:j=0:=by have:=(qi3.1 a).1;simp at this;omega
 subst c;cases a;cases b;exact .nil _ _ _
def q7f(w:qhr)(x:Int):(w.alloc (.cells #[x] 3)).ownsRow w.heap.size 3 1 (.slice (some w.heap.size) 1 1) 1 [.int .i64 x] :=
 ⟨rfl,.inr ⟨_,1,#[x],rfl,qhv _,qhA w _,qhv _,by decide,rfl,rfl⟩⟩
def q9f{p:List Int->Bool}(L:List (List Int))(i:Nat)(l:List Int)(h:L[i]?=some l):(L.take (i+1)).filter p=(L.take i).filter p++if p l then[l] else[]:=by
 rw[qj7,h,qmh];cases e:p l<;>simp[e]
end
section
def qec{x y:Int}:KD x y<0↔x<y:=by unfold KD;split<;>(try split)<;>omega
def q7x{x y:Int}:KD x y=0↔x=y:=by unfold KD;split<;>(try split)<;>omega
def qgt(l s:List Int):List Int:=s.map λj=>l[j.toNat]?.getD 0
def qfn(c:List Int):List (List Int):=(qdq c.length).map (qgt c)
structure SetOk(n:Nat)(c:List Int):Prop where
 eq:qfn c=jB c
 pw:(jB c).Pairwise (λa c=>je a c<0)
 pm:∀x∈jB c,x.Perm c
 mem:∀x∈c,0<=x/\x<n
 nd:c.Nodup
 len:c.length<=n
end
section
open Go.RowKit
def Qv{Y M:Type}(g:Y->List M)(m:Nat)(h:∀a,(g a).length<=m):∀L:List Y,(L.flatMap g).length<=L.length*m
 | []=>by simp
 | a::L=>by
  have c:=Qv g m h L;have b:=h a;rw[qkl,qj1,qhE,qoc,Nat.one_mul];omega
def qQ.lt{base:Nat}{w:qhr}{v:qhu}{L:List (List Int)}(h:qQ base w v L)(j:Nat)(e:v.ownBlock=some j):j<w.heap.size:=by
 obtain⟨f,b,i⟩:=h;rcases b.2 with⟨rfl,-⟩ | ⟨g,d,c,rfl,-,a,-⟩
 ·cases e
 ·simp[qix] at e;subst e;exact(qhs.1 a).1
def qQ.ge{base:Nat}{w:qhr}{v:qhu}{L:List (List Int)}(h:qQ base w v L)(j:Nat)(e:v.ownBlock=some j):base<=j:=by
 obtain⟨f,b,k⟩:=h;rcases b.2 with⟨rfl,-⟩ | ⟨g,d,c,rfl,a,i,-⟩
 ·cases e
 ·simp[qix] at e;subst e;exact a
def qQ.beside{base B n:Nat}{w f:qhr}{v u:qhu}{o:List qhu}{L:List (List Int)}(h:qQ base w v L)(r:w.ownsRow B 29 1 u n o)(b:w.gb f u.ownBlock)(a:∀j,u.ownBlock=some j->v.ownBlock≠some j):qQ base f v L:=by
 obtain⟨k,i,z⟩:=h;refine⟨k,⟨i.1,i.2.imp id λ⟨g,d,c,e,y,t,q⟩=>⟨g,d,c,e,y,blk b (λA=>a g A.symm (by rw[e];rfl)) t,q⟩⟩,λj x l p s=>((z j x l p s).kept_own r (by decide) b).mono (qhv _) b.size⟩
def q4t{u a v:qhu}{w:qhr}(d:a.ownBlock=u.ownBlock\/a.ownBlock=some w.heap.size)(b:∀j,u.ownBlock=some j->v.ownBlock≠some j)(c:∀j,v.ownBlock=some j->j<w.heap.size):∀j,a.ownBlock=some j->v.ownBlock≠some j:=λj e f=>by
 rcases d with h | h
 ·exact b j (h.symm.trans e) f
 ·have:=c j f;rw[e] at h;cases h;omega
end
end Go.Proofs.YtidgnkmjgioapaaGreat
