/-
  Part 6 of the proof. PileMend answers true for every list and keeps it. No conditions.
-/
import Derived.Test.YtidgnkmjgioapaaGreatJ2
import Derived.Maps.AppendAt
import Derived.Test.YtidgnkmjgioapaaGreatRows
import Derived.Conc.LeavingOf
import Derived.Conc.HoldsTime
import Derived.ChangeSame
import Derived.ChangeVars
import Derived.JoinedOf
import Derived.RowKit
import Derived.RowKitTokens
import Derived.LaidHandle
import Derived.ProofKit
set_option maxRecDepth 100000
set_option maxHeartbeats 8000000
set_option linter.all false
open And renaming intro->qhb
open Array renaming getElem?_eq_getElem->qhg,getElem?_eq_some_iff->qgu,getElem?_map->qmE,getElem?_setIfInBounds_ne->qi3,getElem?_setIfInBounds_self_of_lt->qjk,getElem?_toList->qma,range->qkA,replicate_succ->qhr,replicate_zero->qhs
open Bool renaming or_eq_true->qju,true_and->qm9
open Go renaming Addr->qi2,Calls->qhx,Code->qj9,Frame->qgH,FuncId->qi8,Item->qkz,TypeId->qh5,Value->qgx,World->qgt,heap_alloc_new->qgC,info_parts->qjy,maxLen->qky,undef->qgz,wpList_append_own_at->qnB
open Go.Conc renaming base->qhf,run_call_body->qm7
open Go.Frame renaming enter->qhy,finish_at->qjf
open Go.IntWalk renaming i64_in->qhm
open Go.Lib renaming hid->qgr
open Go.Proofs.Tryz renaming f10->qnd,func10->qnC,ntmps56->qqd,prog->qh3
open Go.RowKit renaming intOf->qia
open Go.Value renaming int->qhe,oneCell'->qjh,ownBlock->qhp,slice->qhw
open Go.World renaming cell?->qhu,grownBy_alloc->qgs,news_of_block->qit,ownsRow_nil->qjg,size_alloc->qgF
open Go.World.grownBy renaming refl->qh6
open List renaming cons_append->qha,drop_eq_getElem_cons->qj7,drop_length->qno,drop_succ_cons->qhA,drop_zero->qio,eq_nil_of_length_eq_zero->qhv,filter_append->qm0,foldl_cons->qje,getElem?_append_left->qhh,getElem?_append_right->qid,getElem?_eq_getElem->qgB,getElem?_eq_some_iff->qh0,getElem?_map->qis,getElem?_set_ne->qjq,getElem?_set_self->qks,getElem?_take_of_lt->qjc,length_append->qih,length_cons->qh1,length_filter_le->qji,length_nil->qh7,length_pos_iff->qkf,length_set->qlh,map_append->qiH,map_cons->qjr,map_nil->qln,mem_of_getElem?->qhc,mem_of_mem_take->qkE,nil_append->qhn,push_toArray->qi1,range->qhl,size_toArray->qhk,take_add_one->qi7,take_length->qiy
open List.range renaming loop->qi0
open Nat renaming le_of_eq->qkl,le_refl->qgw,le_trans->qgE,lt_of_lt_of_le->qh2,reduceAdd->qhj,reduceSub->qir,strongRecOn->qmB,zero_add->qhd,zero_le->qhz
open Option renaming getD_some->qgD
open Option.some renaming injEq->qht
namespace Go.Proofs.YtidgnkmjgioapaaGreat
section
open Go.RowKit
theorem Tp.und36L:Ya.underlying 36=some (.slice 29):=by rw[Tp.und];exact Tryz.underlying36
theorem Tp.info29L:(Ya.info? 29).map (λi=>(i.zero,i.size,i.bytes))=some (some (.slice none 0 0),1,24):=by kernel_rfl
theorem qe.kept_own{lo hi base n:Nat}{e:qh5}{w w':qgt}{v x:qgx}{l:List Int}{vs:List qgx}(h:qe lo hi w x l)(ho:w.ownsRow base e 1 v n vs)(he:e≠3)(hg:w.grownBy w' v.ownBlock):qe lo hi w' x l:=by
 rcases ho.2 with⟨rfl,-⟩ | ⟨g,cap,cur,rfl,-,hg2,-⟩
 ·exact h.kept hg (by simp[qhp])
 ·obtain⟨b,c,rfl,hl,hr⟩:=h;refine⟨b,c,rfl,hl,λhne=>?_⟩;obtain⟨B,o,cs,fr,e1,e2,e3,e4,e5⟩:=hr hne;refine⟨B,o,cs,fr,e1,e2,e3,blk hg (λh=>?_) e4,e5⟩;simp[qhp] at h;subst h;rw[e4] at hg2;cases hg2;exact he rfl
def zE(base:Nat)(w:qgt)(v:qgx)(L:List (List Int)):Prop :=
 ∃vs:List qgx,w.ownsRow base 29 1 v L.length vs/\∀(j:Nat) x l,vs[j]?=some x->L[j]?=some l->qe 0 w.heap.size w x l
theorem zE.kept{base:Nat}{w w':qgt}{v:qgx}{L:List (List Int)}(h:zE base w v L)(hg:w.grownBy w' none):zE base w' v L:=by
 obtain⟨vs,h1,h2⟩:=h;exact⟨vs,vF h1 hg,λj x l hx hl=>((h2 j x l hx hl).kept hg (by simp)).mono (qgw _) hg.size⟩
theorem zE.nil(base:Nat)(w:qgt):zE base w (.slice none 0 0) []:=⟨[],qjg _ _ _ _,λj x l hx=>by simp at hx⟩
theorem zE.push{base:Nat}{w w':qgt}{v v' x:qgx}{L:List (List Int)}{l:List Int}{vs:List qgx}(h1:w.ownsRow base 29 1 v L.length vs)(h2:∀(j:Nat) x l,vs[j]?=some x->L[j]?=some l->qe 0 w.heap.size w x l)(hx:qe 0 w.heap.size w x l)(ho:w'.ownsRow base 29 1 v' (L.length+1) (vs++[x]))(hg:w.grownBy w' v.ownBlock):zE base w' v' (L++[l]):=by
 have a6:vs.length=L.length:=by have:=h1.1;simpa using this
 refine⟨vs++[x],by simpa using ho,λj y m hy hm=>?_⟩;by_cases e:j<L.length
 ·rw[qhh (by omega)] at hy;rw[qhh e] at hm;exact((h2 j y m hy hm).kept_own h1 (by decide) hg).mono (qgw _) hg.size
 ·rw[qid (by omega)] at hy hm;have h0:j - L.length=0:=by
   have:=(qh0.1 hm).1;simp at this;omega
  rw[a6,h0] at hy;rw[h0] at hm;simp at hy hm;subst hy hm;exact(hx.kept_own h1 (by decide) hg).mono (qgw _) hg.size
theorem zE.at{base:Nat}{w:qgt}{v:qgx}{L:List (List Int)}(h:zE base w v L):∃a c,v=.slice a L.length c/\(0<L.length->∃g,a=some ⟨g,0,none⟩/\∀(j:Nat) l,L[j]?=some l->∃x,w.cell? ⟨g,j,none⟩=some x/\qe 0 w.heap.size w x l):=by
 obtain⟨vs,h1,h2⟩:=h;have a6:vs.length=L.length:=by have:=h1.1;simpa using this
 obtain⟨a,c,rfl,h3⟩:=vG h1;refine⟨a,c,rfl,λhp=>?_⟩;obtain⟨g,rfl,-,-,h4⟩:=h3 hp;refine⟨g,rfl,λj l hl=>?_⟩;have hj:=(qh0.1 hl).1;obtain⟨x,hx⟩:∃x,vs[j]?=some x:=⟨_,qgB (by omega)⟩;exact⟨x,(h4 j hj).trans hx,h2 j x l hx hl⟩
def q14(hi:Nat)(w:qgt)(v:qgx)(L:List (List Int)):Prop :=
 ∃a c,v=.slice a L.length c/\(0<L.length->∃g,a=some ⟨g,0,none⟩/\g<hi/\(∃cs f,w.heap[g]?=some (.cells cs 29 f))/\∀(j:Nat) l,L[j]?=some l->∃x,w.cell? ⟨g,j,none⟩=some x/\qe 0 hi w x l)
theorem q14.kept{hi:Nat}{w w':qgt}{v:qgx}{L:List (List Int)}{row:Option Nat}(h:q14 hi w v L)(hg:w.grownBy w' row)(hr:∀R,row=some R->hi<=R):q14 hi w' v L:=by
 obtain⟨a,c,rfl,h1⟩:=h;refine⟨a,c,rfl,λhp=>?_⟩;obtain⟨g,rfl,h2,⟨cs,f,h3⟩,h4⟩:=h1 hp;have hne:some g≠row:=λe=>by have:=hr g e.symm;omega
 refine⟨g,rfl,h2,⟨cs,f,blk hg hne h3⟩,λj l hl=>?_⟩;obtain⟨x,hx,hi⟩:=h4 j l hl;exact⟨x,hg.cell hx hne,hi.kept hg λR e=>.inr (hr R e)⟩
theorem zE.rows{base hi:Nat}{w:qgt}{v:qgx}{L:List (List Int)}(h:zE base w v L)(hhi:w.heap.size<=hi):q14 hi w v L:=by
 obtain⟨vs,h1,h2⟩:=h;have a6:vs.length=L.length:=by have:=h1.1;simpa using this
 rcases h1.2 with⟨rfl,h0⟩ | ⟨g,cap,cur,rfl,hb,hg,-⟩
 ·exact⟨none,0,by rw[h0],λhp=>by omega⟩
 ·refine⟨_,_,rfl,λhp=>⟨g,rfl,by have:=(qgu.1 hg).1;omega,⟨_,_,hg⟩,λj l hl=>?_⟩⟩;have hj:=(qh0.1 hl).1;obtain⟨x,hx⟩:∃x,vs[j]?=some x:=⟨_,qgB (by omega)⟩;exact⟨x,(h1.cellAt j (by omega)).trans hx,(h2 j x l hx hl).mono (qgw _) hhi⟩
theorem qe.keptQ{lo hi:Nat}{w w':qgt}{v:qgx}{l:List Int}{q:Option Nat}(h:qe lo hi w v l)(hg:w.grownBy w' q)(hq:∀R,q=some R->∃cs t f,w.heap[R]?=some (.cells cs t f)/\t≠3):qe lo hi w' v l:=by
 obtain⟨b,c,rfl,hl,hr⟩:=h;refine⟨b,c,rfl,hl,λhne=>?_⟩;obtain⟨B,o,cs,fr,e1,e2,e3,e4,e5⟩:=hr hne;refine⟨B,o,cs,fr,e1,e2,e3,blk hg (λh=>?_) e4,e5⟩;obtain⟨cs',t,f,h1,h2⟩:=hq B h.symm;rw[e4] at h1;cases h1;exact h2 rfl
theorem zE.keptQ{base:Nat}{w w':qgt}{v:qgx}{L:List (List Int)}{q:Option Nat}(h:zE base w v L)(hg:w.grownBy w' q)(hq:∀R,q=some R->(∃cs t f,w.heap[R]?=some (.cells cs t f)/\t≠3)/\v.ownBlock≠some R):zE base w' v L:=by
 obtain⟨vs,h1,h2⟩:=h;refine⟨vs,h1.kept hg (Classical.byCases (λh:v.ownBlock=none=>.inl h) λh=>.inr λe=>?_),λj x l hx hl=>((h2 j x l hx hl).keptQ hg λR e=>(hq R e).1).mono (qgw _) hg.size⟩;cases hv:v.ownBlock with
 | none=>exact h hv
 | some R=>rw[hv] at e;exact(hq R e.symm).2 hv
def kU(r:Option Nat)(w:qgt)(v:qgx)(L:List (List Int)):Prop :=
 ∃a c,v=.slice a L.length c/\(0<L.length->∃g,a=some ⟨g,0,none⟩/\some g≠r/\(∃cs f,w.heap[g]?=some (.cells cs 29 f))/\∀(j:Nat) l,L[j]?=some l->∃x,w.cell? ⟨g,j,none⟩=some x/\qe 0 w.heap.size w x l)
theorem kU.kept{r r' q:Option Nat}{w w':qgt}{v:qgx}{L:List (List Int)}(h:kU r w v L)(hg:w.grownBy w' q)(hq:∀R,q=some R->∃cs t f,w.heap[R]?=some (.cells cs t f)/\t≠3/\(t=29->r=some R))(h':∀g,r'=some g->r=some g\/w.heap.size<=g):kU r' w' v L:=by
 obtain⟨a,c,rfl,h1⟩:=h;refine⟨a,c,rfl,λhp=>?_⟩;obtain⟨g,rfl,h2,⟨cs,f,h3⟩,h4⟩:=h1 hp;have hne:some g≠q:=λe=>by
  obtain⟨cs',t,f',e1,-,e2⟩:=hq g e.symm;rw[h3] at e1;cases e1;exact h2 (e2 rfl).symm
 refine⟨g,rfl,λe=>?_,⟨cs,f,blk hg hne h3⟩,λj l hl=>?_⟩
 ·rcases h' g e.symm with h5 | h5
  ·exact h2 h5.symm
  ·have:=(qgu.1 h3).1;omega
 ·obtain⟨x,hx,hi⟩:=h4 j l hl;exact⟨x,hg.cell hx hne,(hi.keptQ hg λR e=>by obtain⟨cs',t,f',e1,e2,-⟩:=hq R e;exact⟨cs',t,f',e1,e2⟩).mono (qgw _) hg.size⟩
theorem zE.x{base:Nat}{w:qgt}{v:qgx}{L:List (List Int)}{r:Option Nat}(h:zE base w v L)(hr:∀g,v.ownBlock=some g->r≠some g):kU r w v L:=by
 obtain⟨a,c,rfl,h1⟩:=h.rows (qgw w.heap.size);refine⟨a,c,rfl,λhp=>?_⟩;obtain⟨g,rfl,-,h2,h3⟩:=h1 hp;exact⟨g,rfl,λe=>hr g rfl e.symm,h2,h3⟩
theorem kU.c{r:Option Nat}{w:qgt}{v:qgx}{L:List (List Int)}(h:kU r w v L):q14 w.heap.size w v L:=by
 obtain⟨a,c,rfl,h1⟩:=h;refine⟨a,c,rfl,λhp=>?_⟩;obtain⟨g,rfl,-,⟨cs,f,h2⟩,h3⟩:=h1 hp;exact⟨g,rfl,(qgu.1 h2).1,⟨cs,f,h2⟩,h3⟩
theorem zE.blk{base:Nat}{w:qgt}{v:qgx}{L:List (List Int)}(h:zE base w v L):∀R,v.ownBlock=some R->base<=R/\R<w.heap.size/\∃cs f,w.heap[R]?=some (.cells cs 29 f):=by
 intro R hR;obtain⟨vs,h1,-⟩:=h;rcases h1.2 with⟨rfl,-⟩ | ⟨g,cap,cur,rfl,hb,hg,-⟩
 ·cases hR
 ·cases hR;exact⟨hb,(qgu.1 hg).1,_,_,hg⟩
def Kn(base:Nat)(r:Option Nat)(w:qgt)(v:qgx)(Ls:List (List (List Int))):Prop :=
 ∃vs:List qgx,w.ownsRow base 36 1 v Ls.length vs/\∀(j:Nat) x L,vs[j]?=some x->Ls[j]?=some L->kU r w x L
theorem Kn.kept{base:Nat}{r r' q:Option Nat}{w w':qgt}{v:qgx}{Ls:List (List (List Int))}(h:Kn base r w v Ls)(hg:w.grownBy w' q)(hq:∀R,q=some R->(∃cs f,w.heap[R]?=some (.cells cs 29 f))/\r=some R)(h':∀g,r'=some g->r=some g\/w.heap.size<=g):Kn base r' w' v Ls:=by
 obtain⟨vs,h1,h2⟩:=h;refine⟨vs,h1.kept hg ?_,λj x L hx hL=>(h2 j x L hx hL).kept hg (λR e=>by obtain⟨⟨cs,f,e1⟩,e2⟩:=hq R e;exact⟨cs,29,f,e1,by decide,λ_=>e2⟩) h'⟩;rcases h1.2 with⟨rfl,-⟩ | ⟨g,cap,cur,rfl,hb,hgg,-⟩
 ·exact .inl rfl
 ·right;intro e;obtain⟨⟨cs,f,e1⟩,-⟩:=hq g e.symm;rw[hgg] at e1;cases e1
theorem Kn.push{base:Nat}{r:Option Nat}{w w':qgt}{v v' x:qgx}{Ls:List (List (List Int))}{L:List (List Int)}{vs:List qgx}(h1:w.ownsRow base 36 1 v Ls.length vs)(h2:∀(j:Nat) x L,vs[j]?=some x->Ls[j]?=some L->kU r w x L)(hx:kU r w x L)(ho:w'.ownsRow base 36 1 v' (Ls.length+1) (vs++[x]))(hg:w.grownBy w' v.ownBlock)(hr:∀g,r=some g->g<w.heap.size):Kn base r w' v' (Ls++[L]):=by
 have a6:vs.length=Ls.length:=by have:=h1.1;simpa using this
 have hq:∀R,v.ownBlock=some R->∃cs t f,w.heap[R]?=some (.cells cs t f)/\t≠3/\(t=29->r=some R):=by
  intro R hR;rcases h1.2 with⟨rfl,-⟩ | ⟨g,cap,cur,rfl,hb,hgg,-⟩
  ·cases hR
  ·cases hR;exact⟨_,_,_,hgg,by decide,λh=>by cases h⟩
 have kp:∀{y:qgx} {M:List (List Int)},kU r w y M->kU r w' y M:=λh=>h.kept hg hq λg e=>.inl e;refine⟨vs++[x],by simpa using ho,λj y m hy hm=>?_⟩;by_cases e:j<Ls.length
 ·rw[qhh (by omega)] at hy;rw[qhh e] at hm;exact kp (h2 j y m hy hm)
 ·rw[qid (by omega)] at hy hm;have h0:j - Ls.length=0:=by
   have:=(qh0.1 hm).1;simp at this;omega
  rw[a6,h0] at hy;rw[h0] at hm;simp at hy hm;subst hy hm;exact kp hx
def Qi(hi:Nat)(w:qgt)(v:qgx)(Ls:List (List (List Int))):Prop :=
 ∃a c,v=.slice a Ls.length c/\(0<Ls.length->∃g,a=some ⟨g,0,none⟩/\g<hi/\∀(j:Nat) L,Ls[j]?=some L->∃x,w.cell? ⟨g,j,none⟩=some x/\q14 hi w x L)
theorem Qi.kept{hi:Nat}{w w':qgt}{v:qgx}{Ls:List (List (List Int))}(h:Qi hi w v Ls)(hg:w.grownBy w' none):Qi hi w' v Ls:=by
 obtain⟨a,c,rfl,h1⟩:=h;refine⟨a,c,rfl,λhp=>?_⟩;obtain⟨g,rfl,h2,h3⟩:=h1 hp;refine⟨g,rfl,h2,λj L hL=>?_⟩;obtain⟨x,hx,hr⟩:=h3 j L hL;exact⟨x,hg.cell hx (by simp),hr.kept hg (by simp)⟩
theorem Kn.levs{base:Nat}{r:Option Nat}{w:qgt}{v:qgx}{Ls:List (List (List Int))}(h:Kn base r w v Ls):Qi w.heap.size w v Ls:=by
 obtain⟨vs,h1,h2⟩:=h;have a6:vs.length=Ls.length:=by have:=h1.1;simpa using this
 rcases h1.2 with⟨rfl,h0⟩ | ⟨g,cap,cur,rfl,hb,hg,-⟩
 ·exact⟨none,0,by rw[h0],λhp=>by omega⟩
 ·refine⟨_,_,rfl,λhp=>⟨g,rfl,(qgu.1 hg).1,λj L hL=>?_⟩⟩;have hj:=(qh0.1 hL).1;obtain⟨x,hx⟩:∃x,vs[j]?=some x:=⟨_,qgB (by omega)⟩;exact⟨x,(h1.cellAt j (by omega)).trans hx,(h2 j x L hx hL).c⟩
theorem Kn.at{base:Nat}{r:Option Nat}{w:qgt}{v:qgx}{Ls:List (List (List Int))}(h:Kn base r w v Ls){j:Nat}{L:List (List Int)}(hj:Ls[j]?=some L):∃g c x,v=.slice (some ⟨g,0,none⟩) Ls.length c/\w.cell? ⟨g,j,none⟩=some x/\kU r w x L:=by
 obtain⟨vs,h1,h2⟩:=h;have a6:vs.length=Ls.length:=by have:=h1.1;simpa using this
 have a7:=(qh0.1 hj).1;rcases h1.2 with⟨rfl,h0⟩ | ⟨g,cap,cur,rfl,hb,hg,-⟩
 ·omega
 ·obtain⟨x,hx⟩:∃x,vs[j]?=some x:=⟨_,qgB (by omega)⟩;exact⟨g,cap,x,rfl,(h1.cellAt j (by omega)).trans hx,h2 j x L hx hj⟩
structure SpI(A:Nat)(U:qgt)(r0:Option Nat)(wi:qgt)(nv mv:qgx)(K nx:List (List Int)):Prop where
 g:U.grownBy wi r0
 m:zE A wi mv K
 n:zE U.heap.size wi nv nx
 o:∀g,mv.ownBlock=some g->r0=some g\/U.heap.size<=g
 d:∀g,nv.ownBlock=some g->mv.ownBlock≠some g
theorem SpI.kept{A:Nat}{U:qgt}{r0:Option Nat}{wi w':qgt}{nv mv:qgx}{K nx:List (List Int)}(h:SpI A U r0 wi nv mv K nx)(hg:wi.grownBy w' none):SpI A U r0 w' nv mv K nx :=
 ⟨h.g.andThen hg (λj e=>by cases e),h.m.kept hg,h.n.kept hg,h.o,h.d⟩
theorem SpI.add{A:Nat}{U:qgt}{r0:Option Nat}{w w1 w2:qgt}{nv mv a6 a7 x:qgx}{K nx:List (List Int)}{l:List Int}{ns ms:List qgx}{o1 o2:Obj}(hg:U.grownBy w r0)(hm:w.ownsRow A 29 1 mv K.length ms)(b8:∀(j:Nat) x l,ms[j]?=some x->K[j]?=some l->qe 0 w.heap.size w x l)(hn:w.ownsRow U.heap.size 29 1 nv nx.length ns)(hni:∀(j:Nat) x l,ns[j]?=some x->nx[j]?=some l->qe 0 w.heap.size w x l)(ho:∀g,mv.ownBlock=some g->r0=some g\/U.heap.size<=g)(hd:∀g,nv.ownBlock=some g->mv.ownBlock≠some g)(hx:qe 0 w.heap.size w x l)(g1:(w.alloc o1).grownBy w1 nv.ownBlock)(n1:w1.ownsRow U.heap.size 29 1 a6 (nx.length+1) (ns++[x]))(b1:a6.ownBlock=nv.ownBlock\/a6.ownBlock=some (w.alloc o1).heap.size)(g2:(w1.alloc o2).grownBy w2 mv.ownBlock)(m2:w2.ownsRow A 29 1 a7 (K.length+1) (ms++[x]))(b2:a7.ownBlock=mv.ownBlock\/a7.ownBlock=some (w1.alloc o2).heap.size):SpI A U r0 w2 a6 a7 (K++[l]) (nx++[l]):=by
 have gA:=qgs w o1 none;have gB:=qgs w1 o2 none;have hN:zE U.heap.size w nv nx:=⟨ns,hn,hni⟩;have hM:zE A w mv K:=⟨ms,hm,b8⟩;have bn:=hN.blk;have bm:=hM.blk;have a9:zE U.heap.size w1 a6 (nx++[l]):=zE.push (vF hn gA) (λj x l hx hl=>((hni j x l hx hl).kept gA (by simp)).mono (qgw _) gA.size) ((hx.kept gA (by simp)).mono (qgw _) gA.size) n1 g1;have b0:zE A w1 mv K:=(hM.kept gA).keptQ g1 λR hR=>by
  obtain⟨-,-,cs,f,e⟩:=bn R hR;exact⟨⟨cs,29,f,blk gA (by simp) e,by decide⟩,hd R hR⟩
 have b6:qe 0 w1.heap.size w1 x l:=(((hx.kept gA (by simp)).keptQ g1 λR hR=>by
  obtain⟨-,-,cs,f,e⟩:=bn R hR;exact⟨cs,29,f,blk gA (by simp) e,by decide⟩).mono (qgw _) (qgE gA.size g1.size))
 obtain⟨a8,q1,q2⟩:=b0.kept gB;have b7:a8=ms:=by
  have h3:=vF ((vF hm gA).kept g1 (Classical.byCases (λh:mv.ownBlock=none=>.inl h) λh=>.inr λe=>by
   cases hv:mv.ownBlock with
   | none=>exact h hv
   | some R=>rw[hv] at e;exact hd R e.symm hv)) gB
  rcases q1.2 with⟨rfl,h0⟩ | ⟨g,cap,cur,rfl,-,hg1,-,-,-,ht⟩
  ·have:=q1.1;have:=hm.1;rw[h0] at *
   rw[qhv (by omega:a8.length=0),qhv (by omega:ms.length=0)]
  ·rcases h3.2 with⟨e,-⟩ | ⟨g',cap',cur',e,-,hg2,-,-,-,ht2⟩
   ·cases e
   ·cases e;rw[hg1] at hg2;cases hg2;rw[<- ht,ht2]
 subst b7;have b9:zE A w2 a7 (K++[l]):=zE.push q1 q2 ((b6.kept gB (by simp)).mono (qgw _) gB.size) m2 g2;have s1:=gA.size;have s2:=g1.size;have s3:=gB.size;have s0:=hg.size;have nb:∀g,a6.ownBlock=some g->mv.ownBlock≠some g/\g<w1.heap.size/\U.heap.size<=g:=λg e=>by
  obtain⟨h1,h2,-⟩:=a9.blk g e;refine⟨λe2=>?_,h2,h1⟩;rcases b1 with h3 | h3
  ·exact hd g (h3 ▸ e) e2
  ·rw[h3] at e;cases e;have:=(bm _ e2).2.1;omega
 refine⟨?_,b9,(a9.kept gB).keptQ g2 λR hR=>?_,λg e=>?_,λg e e2=>?_⟩
 ·refine(((hg.andThen gA (λj e=>by cases e)).andThen g1 (λj e=>.inl ?_)).andThen gB (λj e=>by cases e)).andThen g2 (λj e=>?_)
  ·exact(bn j e).1
  ·rcases ho j e with h | h
   ·exact .inr h
   ·exact .inl h
 ·obtain⟨-,-,cs,f,e⟩:=b0.blk R hR;exact⟨⟨cs,29,f,blk gB (by simp) e,by decide⟩,λe2=>(nb R e2).1 hR⟩
 ·rcases b2 with h | h
  ·exact ho g (h ▸ e)
  ·rw[h] at e;cases e;exact .inr (by omega)
 ·have:=nb g e;rcases b2 with h | h
  ·exact this.1 (h ▸ e2)
  ·rw[h] at e2;cases e2;omega
theorem Tp.und71L:Ya.underlying 71=some (.slice 36):=by rw[Tp.und];exact Tryz.underlying71
theorem Tp.info36L:(Ya.info? 36).map (λi=>(i.zero,i.size,i.bytes))=some (some (.slice none 0 0),1,24):=by kernel_rfl
theorem qai{w:qgt}{base c n X:Nat}{s:List Int}(h:w.ownsRow base 3 1 (.slice (some ⟨X,0,none⟩) n c) n (s.map (qhe .i64))):zf X w s:=by
 obtain⟨h1,h2⟩:=h;rcases h2 with⟨e,-⟩ | ⟨g,cap,cur,e,-,hg,-,-,-,ht⟩
 ·cases e
 ·cases e;refine⟨cur,hg,λi hi=>?_⟩;have hl:n=s.length:=by simpa using h1.symm
  have h3:(s.map (qhe .i64))[i]?=some (.int .i64 (s[i]?.getD 0)):=by
   rw[qis,qgB hi];rfl
  rw[<- ht,Nat.mul_one,qjc (by omega),qma] at h3;exact h3
theorem zf.put{w:qgt}{B j:Nat}{L:List Int}{a:Int}(h:zf B w L):zf B (w.setCell ⟨B,j,none⟩ (.int .i64 a)) (L.set j a):=by
 obtain⟨cs,h1,h2⟩:=h;refine⟨cs.setIfInBounds j (.int .i64 a),by rw[qj h1],λi hi=>?_⟩;rw[qlh] at hi;have h3:=h2 i hi;by_cases e:j=i
 ·subst e;rw[qjk (qgu.1 h3).1,qks hi];rfl
 ·rw[qi3 e,qjq e];exact h3
theorem zf.ints{w:qgt}{B c:Nat}{L:List Int}(h:zf B w L)(hl:(L.length:Int)<=1000000):qe 0 w.heap.size w (.slice (some ⟨B,0,none⟩) L.length c) L:=by
 obtain⟨cs,h1,h2⟩:=h;exact⟨_,_,rfl,hl,λ_=>⟨B,0,cs,_,rfl,qhz _,(qgu.1 h1).1,h1,λi hi=>by rw[qhd];exact h2 i hi⟩⟩
theorem q77(k:Nat)(kn:List (List Int) × List (List Int))(s:List Int):(j6 k kn s).1.length<=kn.1.length+k/\(j6 k kn s).2.length<=kn.2.length+k:=by
 induction k with
 | zero=>simp[j6]
 | succ k ih=>
  rw[jP];unfold yU;split
  ·omega
  ·simp only[qih,qh1,qh7];omega
theorem q45(n1:Nat)(L:List (List Int)):∀kn:List (List Int) × List (List Int),(L.foldl (j6 n1) kn).1.length<=kn.1.length+L.length*n1/\(L.foldl (j6 n1) kn).2.length<=kn.2.length+L.length*n1:=by
 induction L with
 | nil=>intro kn;simp
 | cons s L ih=>
  intro kn;have h1:=q77 n1 kn s;have h2:=ih (j6 n1 kn s);rw[qje,qh1,Nat.succ_mul];omega
theorem qcH(n f:Nat)(K:List (List Int)):lvl n f K []=[[]]:=by cases f<;>rfl
theorem qay(n f:Nat){K now:List (List Int)}(h:now≠[]):lvl n (f+1) K now=now::lvl n f (yL n K now).1 (yL n K now).2:=by rw[lvl,if_neg h]
theorem q7o{L:List (List Int)}{i:Nat}{s:List Int}(h:L[i]?=some s)(n1:Nat)(K:List (List Int)):je n1 K (L.take (i+1))=j6 n1 (je n1 K (L.take i)) s:=by
 rw[qi7,h];exact q0D _ _ _ _
def qg0:qgx->Nat
 | .slice _ n _=>n
 | _=>0
theorem qez{nv mv:qgx}(h:∀g,nv.ownBlock=some g->mv.ownBlock≠some g):mv.ownBlock=none\/mv.ownBlock≠nv.ownBlock:=by
 cases hm:mv.ownBlock with
 | none=>exact .inl rfl
 | some g=>exact .inr λe=>h g e.symm hm
structure SpO(A:Nat)(w:qgt)(n:Nat)(Ls:List (List (List Int)))(ov mv:qgx)(wr:qgt)(dn:List (List (List Int)))(f:Nat)(K now:List (List Int)):Prop where
 ls:Ls=dn++lvl n f K now
 fu:dn.length+f=20
 g:w.grownBy wr none
 o:Kn A mv.ownBlock wr ov (dn++[now])
 m:zE A wr mv K
 k:K.length<=600*dn.length+1
theorem q9m(w:qgt){n X j k:Nat}(a b:qgx)(h:n<=X){w0:qgt}(hg:w0.grownBy w none)(hn:w0.heap.size=n):w0.grownBy ((w.setCell ⟨X,j,none⟩ a).setCell ⟨X,k,none⟩ b) none:=by
 have h1:=qh w X j a;have h2:=qh (w.setCell ⟨X,j,none⟩ a) X k b;exact(hg.andThen h1 (λj e=>by cases e;exact .inl (by omega))).andThen h2 (λj e=>by cases e;exact .inl (by omega))
theorem SpO.push{A:Nat}{w U wr w5:qgt}{n f:Nat}{Ls dn:List (List (List Int))}{now K' nx:List (List Int)}{ov mv a7 nv:qgx}{r0:Option Nat}{vs:List qgx}{o:Obj}(hg:w.grownBy U none)(a8:Ls=dn++now::lvl n f K' nx)(a9:dn.length+1+f=20)(hk:K'.length<=600*(dn.length+1)+1)(hP:SpI A U r0 wr nv mv K' nx)(hO:(wr.alloc o).ownsRow A 36 1 ov (dn.length+1) vs)(hV:∀(j:Nat) x L,vs[j]?=some x->(dn++[now])[j]?=some L->kU mv.ownBlock (wr.alloc o) x L)(hN:w5.ownsRow A 36 1 a7 (dn.length+1+1) (vs++[nv]))(hG:(wr.alloc o).grownBy w5 ov.ownBlock)(hA:w.heap.size<=A)(hr:∀R,r0=some R->A<=R):SpO A w n Ls a7 mv w5 (dn++[now]) f K' nx:=by
 have gA:=qgs wr o none;have a6:(dn++[now]).length=dn.length+1:=by simp
 have hq:∀R,ov.ownBlock=some R->A<=R/\∃cs f,(wr.alloc o).heap[R]?=some (Obj.cells cs 36 f):=by
  intro R hR;rcases hO.2 with⟨rfl,-⟩ | ⟨g,cap,cur,rfl,hb,hgg,-⟩
  ·cases hR
  ·cases hR;exact⟨hb,_,_,hgg⟩
 have hM:=hP.m.kept gA;refine⟨by rw[a8];simp,by rw[a6];exact a9,?_,?_,hM.keptQ hG λR hR=>?_,by rw[a6];exact hk⟩
 ·refine((hg.andThen hP.g λR e=>.inl (qgE hA (hr R e))).trans gA).andThen hG λR e=>.inl (qgE hA (hq R e).1)
 ·exact Kn.push (Ls:=dn++[now]) (by rw[a6];exact hO) hV ((hP.n.kept gA).x λg e e2=>hP.d g e e2) (by rw[a6];exact hN) hG λg e=>(hM.blk g e).2.1
 ·obtain⟨-,cs,f,e⟩:=hq R hR;refine⟨⟨cs,36,f,e,by decide⟩,λe2=>?_⟩;obtain⟨-,-,cs',f',e3⟩:=hM.blk R e2;rw[e] at e3;cases e3
theorem q5d(lo hi:Nat)(lv:qgx)(l:List Int)(w:qgt)(hI:qe lo hi w lv l)(hhi:hi<=w.heap.size)(h5:l.length<=5)(Ls:List (List (List Int)))(n7:Ls=lvl l.length 20 [l] [l])(hend:Ls.getLast?=some [])(e6:∀L∈Ls,L.length<=100/\∀s∈L,s.length=l.length) :qhx Ya 58 #[lv] w λe w'=>∃v,e=.returned v/\w.grownBy w' none/\Qi w'.heap.size w' v Ls:=by
 obtain⟨base,cap,rfl,-,-⟩:=hI.cell;obtain⟨i0,m7,l7,l6,l5⟩:=qjy Tp.info29L;obtain⟨j0,m6,q6,q5,q4⟩:=qjy Tp.info36L;go_enter Tp.x58,Tryz.ntmps58;go_upto_region 3 with(fail);obtain⟨A,hA⟩:∃A,A=w.heap.size:=⟨_,rfl⟩;rw[<- hA];obtain⟨w1,b6⟩:∃w1,w1=((w.alloc (.cells #[.slice base l.length cap] 29)).alloc (.cells #[.slice (some ⟨A,0,none⟩) 1 1] 36)).alloc (.cells #[.slice base l.length cap] 29):=⟨_,rfl⟩;rw[<- b6];have hG:w.grownBy w1 none:=by rw[b6];exact((qgs _ _ none).trans (qgs _ _ none)).trans (qgs _ _ none)
 have b1:w1.heap[A]?=some (.cells #[.slice base l.length cap] 29 (0,0)):=by rw[b6];exact qr (qr (by rw[hA];exact qgC w _))
 have b2:w1.heap[A+1]?=some (.cells #[.slice (some ⟨A,0,none⟩) 1 1] 36 (0,0)):=by
  have:=qgC (w.alloc (.cells #[.slice base l.length cap] 29)) (.cells #[.slice (some ⟨A,0,none⟩) 1 1] 36);rw[qgF,<- hA] at this;rw[b6];exact qr this
 have b3:w1.heap[A+1+1]?=some (.cells #[.slice base l.length cap] 29 (0,0)):=by
  have:=qgC ((w.alloc (.cells #[.slice base l.length cap] 29)).alloc (.cells #[.slice (some ⟨A,0,none⟩) 1 1] 36)) (.cells #[.slice base l.length cap] 29);rw[qgF,qgF,<- hA] at this;rw[b6];exact this
 have k5:qe 0 w1.heap.size w1 (.slice base l.length cap) l:=(hI.kept hG (by simp)).mono (qhz _) (qgE hhi hG.size);have l4:∀(j:Nat) (x:qgx) (m:List Int),[(qhw base l.length cap)][j]?=some x->[l][j]?=some m->qe 0 w1.heap.size w1 x m:=λj x m hx hm=>by
  have hj:j=0:=by have:=(qh0.1 hx).1;simp at this;omega
  subst hj;cases hx;cases hm;exact k5
 have n4:SpO A w l.length Ls (.slice (some ⟨A+1,0,none⟩) 1 1) (.slice (some ⟨A+1+1,0,none⟩) 1 1) w1 [] 20 [l] [l]:=by
  refine⟨by rw[n7];rfl,rfl,hG,⟨[.slice (some ⟨A,0,none⟩) 1 1],⟨rfl,.inr ⟨A+1,1,_,rfl,by omega,b2,qgw _,by decide,rfl,rfl⟩⟩,λj x L hx hL=>?_⟩,⟨[.slice base l.length cap],⟨rfl,.inr ⟨A+1+1,1,_,rfl,by omega,b3,qgw _,by decide,rfl,rfl⟩⟩,l4⟩,by simp⟩;have hj:j=0:=by have:=(qh0.1 hx).1;simp at this;omega
  subst hj;cases hx;cases hL;refine⟨_,_,rfl,λ_=>⟨A,rfl,by simp[qhp];omega,⟨_,_,b1⟩,λj m hm=>?_⟩⟩;have hj:j=0:=by have:=(qh0.1 hm).1;simp at this;omega
  subst hj;cases hm;exact⟨_,q9 b1 rfl,k5⟩
 have s2:=qgr n4;have HG:=qgr hG;have HA:=qgr hA;have q3:=qgr hend;have p7:=qgr e6;have v4:A<=w1.heap.size:=by have:=hG.size;omega
 clear n4 k5 l4 b1 b2 b3 b6 hI hG hA n7 hend e6;go_loopw [3,4] (λov mv wr=>∃(dn:List (List (List Int))) (f:Nat) (K now:List (List Int)),SpO A w l.length Ls ov mv wr dn f K now) (λov _ _=>40 - qg0 ov)
 case atStart=>exact⟨[],20,_,_,s2.out⟩
 case round=>
  obtain⟨dn,f,K,now,hS⟩:=hrel;obtain⟨U,rfl⟩:∃U,U=wr:=⟨_,rfl⟩;have u9:=hS.fu;obtain⟨ma,mc,rfl,-⟩:=hS.m.at;obtain⟨g,c,x,rfl,hx,xa,xc,rfl,c3⟩:=hS.o.at (j:=dn.length) (L:=now) (by simp);have a9:(dn++[now]).length=dn.length+1:=by simp
  rw[a9] at hS ⊢;have s8:=qgr a9;have HS:=qgr hS;have v7:A<=U.heap.size:=by have h1:=hS.g.size;have h2:=HA.out;omega
  have v1:0<=(dn.length:Int):=by omega
  have hd1:(dn.length:Int)<(dn.length:Int)+1:=by omega
  have v0:IntKind.i64.wrap (dn.length:Int)=(dn.length:Int):=qhm _ (by omega);by_cases b0:now=[]
  ·subst b0;have k9:=qgr hS.ls;clear hS c3 a9;go_wp2;go_ret;refine⟨_,rfl,HS.out.g,?_⟩;have h1:=HS.out.o.levs;rw[k9.out,qcH];exact h1
  ·have e5:0<now.length:=qkf.2 b0;have t9:(0:Int)<(now.length:Int):=by omega
   obtain⟨f',rfl⟩:∃f',f=f'+1:=by
    cases f with
    | succ f'=>exact⟨f',rfl⟩
    | zero=>
     have h1:=q3.out;rw[hS.ls] at h1;simp[lvl] at h1;exact absurd h1 b0
   have c8:=hS.ls;rw[qay _ _ b0] at c8;have g9:=p7.out now (by rw[c8];simp);have s5:=qgr g9.2;have h8:=g9.1;have k9:=qgr c8;have hk:=hS.k;obtain⟨r0,b7⟩:∃r0,r0=(qhw ma K.length mc).ownBlock:=⟨_,rfl⟩;have g8:∀R,r0=some R->∃cs f,U.heap[R]?=some (Obj.cells cs 29 f):=λR e=>(hS.m.blk R (by rw[<- b7];exact e)).2.2;obtain⟨NB,rfl,-⟩:=c3 e5;have e8:=qgr (show ∀wi,U.grownBy wi r0->∀(i:Nat) s,now[i]?=some s->∃xv,wi.cell? ⟨NB,i,none⟩=some xv/\qe 0 wi.heap.size wi xv s from λwi hg i s hs=>by
    have h1:kU r0 U (.slice (some ⟨NB,0,none⟩) now.length xc) now:=by rw[b7];exact⟨_,_,rfl,c3⟩
    obtain⟨a,c',e,h2⟩:=h1.kept (r':=r0) hg (λR e=>by obtain⟨cs,f,h⟩:=g8 R e;exact⟨cs,29,f,h,by decide,λ_=>e⟩) (λg e=>.inl e);injection e with e1 _ e3;obtain⟨g',e4,-,-,h5⟩:=h2 e5;rw[<- e1] at e4;cases e4;exact h5 i s hs)
   have s3:=qgr g8;have t2:=qgr (show ∀R,r0=some R->A<=R from λR e=>(hS.m.blk R (by rw[<- b7];exact e)).1);have p3:=qgr b7;have n8:SpI A U r0 U (.slice none 0 0) (.slice ma K.length mc) K []:=⟨qh6 _ _,hS.m,zE.nil _ _,λg e=>.inl (by rw[b7];exact e),λg e=>by cases e⟩;have p9:=qgr n8;clear hS c3 a9 c8 g9 g8 b7 n8 b0;go_wp2;go_loopw [4,5,7] (λe9 nv iv wi=>∃i:Nat,iv=.int .i64 i/\i<=now.length/\SpI A U r0 wi nv e9 (je (l.length - 1) K (now.take i)).1 (je (l.length - 1) K (now.take i)).2) (λ_ _ iv _=>(now.length - qia iv).toNat)
   case atStart=>exact⟨0,rfl,by omega,p9.out⟩
   case round=>
    obtain⟨i,rfl,hi,hP⟩:=hrel;have HP:=qgr hP;clear hP;by_cases hlt:i<now.length
    ·obtain⟨s,hs⟩:∃s,now[i]?=some s:=⟨_,qgB hlt⟩;have g7:=s5.out s (qhc hs);have t4:s.length<=l.length:=qkl g7;have t3:l.length<=s.length:=qkl g7.symm;clear g7;have u8:(i:Int)<(now.length:Int):=by omega
     have n9:=qgr (q7o hs (l.length - 1) K);have s1:=qgr hs;have hb:=q45 (l.length - 1) (now.take i) (K,[]);have k0:(now.take i).length*(l.length - 1)<=400:=qgE (Nat.mul_le_mul (show(now.take i).length<=100 by simp;omega) (show l.length - 1<=4 by omega)) (by decide);have r6:(je (l.length - 1) K (now.take i)).1.length<=12500/\(je (l.length - 1) K (now.take i)).2.length<=400:=by
      unfold je;simp only[qh7] at hb;omega
     obtain⟨kn,a7⟩:∃kn,kn=je (l.length - 1) K (now.take i):=⟨_,rfl⟩;rw[<- a7] at HP n9 r6;clear hs hb k0 a7;go_wp2;go_loopw [4,5,8] (λe9 nv kv wi=>∃j:Nat,kv=.int .i64 ((j:Int)+1)/\j<=l.length - 1/\SpI A U r0 wi nv e9 (j6 j kn s).1 (j6 j kn s).2) (λ_ _ kv _=>(l.length - qia kv).toNat)
     case atStart=>exact⟨0,by simp,by omega,HP.out⟩
     case round=>
      obtain⟨j,rfl,hj,hQ⟩:=hrel;obtain⟨pa,pc,rfl,-⟩:=hQ.m.at;obtain⟨qa,qc,rfl,-⟩:=hQ.n.at;have HQ:=qgr hQ;by_cases u6:j+1<l.length
      ·obtain⟨a,ha⟩:∃a,s[j]?=some a:=⟨_,qgB (by omega)⟩;obtain⟨b,hb⟩:∃b,s[j+1]?=some b:=⟨_,qgB (by omega)⟩;obtain⟨xv,t8,g6⟩:=e8.out _ hQ.g i s s1.out;obtain⟨xb,t6,rfl,-,-⟩:=g6.cell;have r5:(j:Int)+1<(l.length:Int):=by omega
       have hjs:(j:Int)<(s.length:Int):=by omega
       have t5:(j:Int)+1<(s.length:Int):=by omega
       have m6:(0:Int)<=(j:Int):=by omega
       have u7:(0:Int)<=(j:Int)+1:=by omega
       have u0:IntKind.i64.wrap (j:Int)=(j:Int):=qhm _ (by omega);have u5:((j:Int)+1).toNat=j+1:=by omega
       have hxl:(j6 j kn s).1.length<=12504/\(j6 j kn s).2.length<=404:=by have:=q77 j kn s;omega
       have d7:=qgr (jP j kn s);obtain⟨k1,m5⟩:∃k1,k1=j6 j kn s:=⟨_,rfl⟩;rw[<- m5] at d7 HQ hxl ⊢;clear m5;have r7:=qgr g6;have d8:=qgr (qhb ha hb);clear hQ g6 ha hb;go_upto_region 13 with(first
        | (go_at_call 28;go_must (refine(qb1 0 _ _ s _ r7.out (qgw _) (by omega)).mono ?_);rintro e w3 ⟨kv,rfl,m9,h9⟩;obtain⟨ka,kc,rfl,m4⟩:=vG h9;have KO:=qgr h9;have G3:=qgr m9;have K4:=qgr m4;clear m9 h9 m4))
       obtain⟨X,rfl,e7,n3,-⟩:=K4.out (by omega);have hN:=qai KO.out;obtain⟨ha,hb⟩:=d8.out;have q1:w3.cell? ⟨X,j,none⟩=some (.int .i64 a):=by rw[hN.at (by omega),ha];rfl
       have q2:w3.cell? ⟨X,j+1,none⟩=some (.int .i64 b):=by rw[hN.at (by omega),hb];rfl
       have z1:=hN.thaw (k:=j);have z2:=hN.thaw (k:=j+1);have k6:=qgr (show ∀W:qgt,W.heap=w3.heap->(W.setCell ⟨X,j,none⟩ (.int .i64 b)).cell? ⟨X,j+1,none⟩=some (.int .i64 b)/\(W.setCell ⟨X,j,none⟩ (.int .i64 b)).frozen? ⟨X,j+1,none⟩=false from λW e=>by
        have hW:zf X W s:=by unfold zf;rw[e];exact hN
        have hp:=hW.put (j:=j) (a:=b);refine⟨?_,hp.thaw⟩;rw[hp.at (by rw[qlh];omega),qjq (by omega),hb];rfl)
       have p6:=qgr hN;clear ha hb K4 hN;refine qU 16 (λw'=>w'.cell? ⟨X,j+1,none⟩=some (.int .i64 b)/\w'.frozen? ⟨X,j+1,none⟩=false) (by kernel_rfl) (by kernel_rfl) ⟨q2,z2⟩ (λa8=>?_);simp only[qh1,qh7,qhj,qir,qhd,qhr,qhs,qi1,qhn,qha];refine tk 0 (h:=tk 1 (h:=tk 2 (h:=tk 3 (h:=tk 4 (h:=tk 5 (h:=tk 6 (h:=tk 7 (h:=tk 8 (h:=tk 9 (h:=tk 10 (h:=tk 11 (h:=tk 12 (h:=?_)))))))))))));try go_frame
       refine rdy [13] ?_;refine cns 13 (λK hK=>?_) ?_
       ·skip;go_simp;refine hK.out _ _ (by first | exact a8 | exact⟨q2,z2⟩ | exact k6.out _ rfl) (λa8=>?_);clear hK K;try go_frame
        refine tk 14 (h:=?_);try go_frame
        refine rdy [15] ?_;refine cns 15 (λK hK=>?_) ?_
        ·skip;go_simp;refine hK.out _ _ (by first | exact a8 | exact⟨q2,z2⟩ | exact k6.out _ rfl) (λa8=>?_);clear hK K;try go_frame
         refine⟨by kernel_rfl,?_⟩;simp only[qhA,qio];go_upto_region 15 with(fail);refine vS (λu=>wr.grownBy u none/\zf X u (swp s j)) ⟨(q9m _ _ _ e7 G3.out rfl).trans (qk _ _ none),by
          rw[show swp s j=(s.set j b).set (j+1) a by unfold swp;rw[d8.out.1,d8.out.2];rfl];exact(p6.out.put (a:=b)).put (a:=a)⟩ (λu hF=>?_)
         obtain⟨g5,n5⟩:=hF;have c9:=n5.ints (c:=kc) (by rw[Zg];omega);rw[Zg] at c9;obtain⟨q,hq⟩:∃q,q=swp s j:=⟨_,rfl⟩;rw[<- hq] at c9 d7;obtain⟨W0,rfl⟩:∃W0,W0=wr:=⟨_,rfl⟩;have v8:=qgr g5;have p8:=qgr (show ∀wj,u.grownBy wj none->qe 0 wj.heap.size wj (.slice (some ⟨X,0,none⟩) s.length kc) q from λwj h=>(c9.kept h (by simp)).mono (qgw _) h.size);have k7:=qgr (show ∀wj,u.grownBy wj none->SpI A U r0 wj (.slice qa k1.2.length qc) (.slice pa k1.1.length pc) k1.1 k1.2 from λwj h=>HQ.out.kept (g5.trans h));clear a8 q1 q2 z1 z2 k6 p6 d8 n5 c9 hq KO G3 g5 e7 n3;go_wp2;go_loopw [10,11] (λbv mv wj=>∃m:Nat,mv=.int .i64 m/\m<=k1.1.length/\bv=.bool (decide (q∈k1.1.take m))/\u.grownBy wj none) (λ_ mv _=>(k1.1.length - qia mv).toNat)
         case atStart=>exact⟨0,rfl,by omega,by simp,qh6 _ _⟩
         case round=>
          obtain⟨m,rfl,hm,rfl,hG⟩:=hrel;have q0:=qgr hG;by_cases a7:q∈k1.1.take m
          ·have HV:=qgr (KP (kn:=k1) (qkE a7));rw[decide_eq_true a7];clear hG a7;by_cases hmm:(m:Int)<(k1.1.length:Int);all_goals
            go_wp2;go_roundw
            case rel=>exact⟨j+1,by simp,by omega,by rw[d7.out,HV.out];exact k7.out _ q0.out⟩
            case measure=>simp[qia];omega
          ·rw[decide_eq_false a7];by_cases r3:m<k1.1.length
           ·obtain⟨y,hy⟩:∃y,k1.1[m]?=some y:=⟨_,qgB r3⟩;have hmm:(m:Int)<(k1.1.length:Int):=by omega
            obtain⟨_,_,er,hr⟩:=(k7.out _ hG).m.at;injection er with er1 _ er3;subst er1 er3;obtain⟨R,rfl,d9⟩:=hr (by omega);obtain⟨yv,t7,hyi⟩:=d9 m y hy;obtain⟨yb,yc,rfl,-,-⟩:=hyi.cell;have s9:=qgr (zW 0 _ 0 _ _ _ y q wr hyi (p8.out _ hG));have r8:=qgr (show decide (q∈k1.1.take (m+1))=decide (y=q) by
             rw[qi7,hy];by_cases e:y=q
             ·simp[e]
             ·simp[a7,e,Ne.symm e])
            clear hG hr d9 hyi hy a7;go_wp2_with (first
             | (go_at_call 31;refine s9.out.mono ?_;rintro e w9 ⟨rfl,m8⟩;have G9:=qgr m8;clear m8))
            go_roundw
            case rel=>exact⟨m+1,by simp,by omega,by rw[r8.out],q0.out.trans G9.out⟩
            case measure=>simp[qia];omega
           ·obtain rfl:m=k1.1.length:=by omega
            rw[qiy] at a7;have HV:=qgr (KQ (kn:=k1) a7);have hmm:¬ (k1.1.length:Int)<(k1.1.length:Int):=by omega
            have b8:=k7.out _ hG;obtain⟨ms,l9,m3⟩:=b8.m;obtain⟨ns,l8,hni⟩:=b8.n;have p5:=qgr l9;have s7:=qgr m3;have p4:=qgr l8;have s6:=qgr hni;have HX:=qgr (p8.out _ hG);have v2:=b8.g.size;have d5:=qgr b8;clear hG b8 l9 m3 l8 hni a7;go_wp2_with (first
             | (at_builtin;(refine qnB _ rfl _ _ 36 rfl U.heap.size 29 i0 _ 1 24 Tp.und36L m7 l7 l6 l5 rfl (by decide) (.slice qa k1.2.length qc) k1.2.length ns rfl (p4.out.alloc _) ⟨wr.heap.size,0,none⟩ 1 1 [.slice (some ⟨X,0,none⟩) s.length kc] rfl rfl (qit (cs:=#[.slice (some ⟨X,0,none⟩) s.length kc]) (t:=29) (fr:=(0,0)) (qgC wr _)) (by simp[qjh]) (by unfold qky;omega) (by omega) (by simp;omega) ?_);intro v5 w5 hown a6 _ b9;have k8:=qgr hown;have d6:=qgr a6;have t1:=qgr b9;have q7:=a6.size;clear hown a6 b9)
             | (at_builtin;(refine qnB _ rfl _ _ 36 rfl A 29 i0 _ 1 24 Tp.und36L m7 l7 l6 l5 rfl (by decide) (.slice pa k1.1.length pc) k1.1.length ms rfl (((p5.out.alloc _).kept d6.out (qez d5.out.d)).alloc _) ⟨w5.heap.size,0,none⟩ 1 1 [.slice (some ⟨X,0,none⟩) s.length kc] rfl rfl (qit (cs:=#[.slice (some ⟨X,0,none⟩) s.length kc]) (t:=29) (fr:=(0,0)) (qgC w5 _)) (by simp[qjh]) (by unfold qky;omega) (by omega) (by simp at q7 ⊢;omega) ?_);intro v6 w6 hown a6 _ b9;have r9:=qgr (SpI.add d5.out.g p5.out s7.out p4.out s6.out d5.out.o d5.out.d HX.out d6.out k8.out t1.out a6 hown b9);clear hown a6 b9))
            go_roundw
            case rel=>exact⟨j+1,by simp,by omega,by rw[d7.out,HV.out];exact r9.out⟩
            case measure=>simp[qia];omega
        exact qp.nil
       exact qp.nil
      ·obtain rfl:j=l.length - 1:=by omega
       have r5:¬ ((l.length - 1:Nat):Int)+1<(l.length:Int):=by omega
       clear hQ;go_wp2;go_roundw
       case rel=>exact⟨i+1,by simp,by omega,by rw[n9.out];exact HQ.out⟩
       case measure=>simp[qia];omega
    ·obtain rfl:i=now.length:=by omega
     have hP:=HP.out;rw[qiy,<- q1D] at hP;have hb:=q45 (l.length - 1) now (K,[]);have k0:now.length*(l.length - 1)<=400:=qgE (Nat.mul_le_mul h8 (show l.length - 1<=4 by omega)) (by decide);have r4:(yL l.length K now).1.length<=600*(dn.length+1)+1:=by
      rw[q1D];unfold je;simp only[qh7] at hb;omega
     obtain⟨pa,pc,rfl,-⟩:=hP.m.at;obtain⟨qa,qc,rfl,-⟩:=hP.n.at;have v3:=hP.g.size;have n6:=HS.out.o.kept (r':=(qhw pa (yL l.length K now).1.length pc).ownBlock) hP.g (λR e=>⟨s3.out R e,by rw[<- p3.out];exact e⟩) (λg e=>by have:=hP.o g e;rwa [p3.out] at this);obtain⟨vs,hO,hV⟩:=n6.kept (r':=(qhw pa (yL l.length K now).1.length pc).ownBlock) (qgs wr (.cells #[.slice qa (yL l.length K now).2.length qc] 36) none) (λR e=>by cases e) (λg e=>.inl e);have HO:=qgr hO;have HV:=qgr hV;have s4:=qgr hP;have n2:dn.length+1+f'=20:=by omega
     rw[s8.out] at HO;generalize hE:yL l.length K now=E at *
     clear hP n6 hO hV hb k0 p9 e8;go_wp2_with (first
      | (at_builtin;go_must (refine qnB _ rfl _ _ 71 rfl A 36 j0 _ 1 24 Tp.und71L m6 q6 q5 q4 rfl (by decide) (.slice (some ⟨g,0,none⟩) (dn.length+1) c) (dn.length+1) vs rfl HO.out ⟨wr.heap.size,0,none⟩ 1 1 [.slice qa E.2.length qc] rfl rfl (qit (cs:=#[.slice qa E.2.length qc]) (t:=36) (fr:=(0,0)) (qgC wr _)) (by simp[qjh]) (by unfold qky;omega) (by omega) (by simp;omega) ?_);intro v5 w5 hown a6 _ _;obtain⟨va,vc,rfl,-⟩:=vG hown;have k8:=qgr hown;have d6:=qgr a6;clear hown a6))
     go_roundw
     case rel=>exact⟨dn++[now],f',E.1,E.2,SpO.push HS.out.g k9.out n2 r4 s4.out HO.out HV.out k8.out d6.out (by rw[HA.out];exact qgw _) t2.out⟩
     case measure=>simp[qg0];omega



def zV(l:List Int)(n:Nat):List Int:=(zo n).filter λx=>l.contains x
theorem q1j(l:List Int)(n:Nat):zV l (n+1)=zV l n++if(n:Int)∈l then[(n:Int)] else[]:=by
 unfold zV;rw[q0h,qm0];by_cases h:(n:Int)∈l<;>simp[h]
theorem Jh(lo hi:Nat)(lv:qgx)(l:List Int)(n:Nat)(w:qgt)(hI:qe lo hi w lv l)(hn:n<=1000) :qhx Ya 45 #[lv,.int .i64 n] w λe w'=>∃v,e=.returned v/\w.grownBy w' none/\qe w.heap.size w'.heap.size w' v (zV l n):=by
 obtain⟨i0,b6,a9,a8,a7⟩:=qjy Tp.info3p;obtain⟨lb,lc,rfl,c8,-⟩:=hI.cell;have b9:=qgr hI;obtain⟨A,hA⟩:∃A,A=w.heap.size:=⟨_,rfl⟩;have HA:=qgr hA;clear hA hI;go_enter Tp.x45,Tryz.ntmps45;go_wp2;go_loopw [5,6] (λov kv wr=>∃k:Nat,kv=.int .i64 k/\k<=n/\w.grownBy wr none/\wr.ownsRow A 3 1 ov (zV l k).length ((zV l k).map (qhe .i64))) (λ_ kv _=>(n - qia kv).toNat)
 case atStart=>exact⟨0,rfl,by omega,qh6 _ _,qjg _ _ _ _⟩
 case round=>
  obtain⟨k,rfl,hk,hG,hO⟩:=hrel;have HG:=qgr hG;by_cases hlt:k<n
  ·have c9:(k:Int)<(n:Int):=by omega
   have HS:=qgr (q1j l k);have b7:(zV l k).length<=1000:=by
    unfold zV;exact qgE (qji _ _) (by rw[zk];omega)
   generalize zV l k=M at hO HS b7 ⊢;obtain⟨oa,oc,rfl,-⟩:=vG hO;have HO:=qgr hO;have HL:=qgr (b9.out.kept hG (by simp));have d5:A<=wr.heap.size:=by have:=HA.out;have:=hG.size;omega
   clear hO hG;by_cases hm:(k:Int)∈l
   ·rw[if_pos hm] at HS;have HM:=qgr hm;clear hm;go_wp2_with (first
     | (go_at_call 40;refine(qbG _ _ _ l k _ HL.out).mono ?_;rintro e w3 ⟨r,rfl,hr,rfl⟩;have b0:0<=r:=(by have:=mt hr.1;simp only[Decidable.not_not] at this;have:=this HM.out;omega);clear hr)
     | (at_builtin;(refine wpList_append_own _ rfl _ _ 29 rfl A 3 i0 _ 1 8 Tp.und29' b6 a9 a8 a7 rfl (by decide) (.slice oa M.length oc) M.length _ rfl (HO.out.alloc _) ⟨wr.heap.size,0,none⟩ 1 1 [.int .i64 k] rfl rfl (qit (cs:=#[.int .i64 k]) (t:=3) (fr:=(0,0)) (qgC wr _)) (by simp[qjh]) (by unfold qky;omega) (by omega) (by simp;omega) ?_);intro v5 w5 hown a6 _;have HW:=qgr hown;have c3:=qgr a6;clear hown a6))
    have b8:=World.grownBy.andThen (row:=none) (HG.out.trans (qgs wr (.cells #[.int .i64 k] 3) none)) c3.out (λj e=>.inl (by have:=(HO.out.lt j e).1;have:=HA.out;omega));go_roundw
    case rel=>exact⟨k+1,by simp,by omega,b8,by rw[HS.out,qiH,qih];exact HW.out⟩
    case measure=>simp[qia];omega
   ·rw[if_neg hm] at HS;have HM:=qgr hm;clear hm;go_wp2_with (first
     | (go_at_call 40;refine(qbG _ _ _ l k _ HL.out).mono ?_;rintro e w3 ⟨r,rfl,hr,rfl⟩;have b0:¬ 0<=r:=(by have:=hr.2 HM.out;omega);clear hr))
    go_roundw
    case rel=>exact⟨k+1,by simp,by omega,HG.out,by rw[HS.out,List.append_nil];exact HO.out⟩
    case measure=>simp[qia];omega
  ·obtain rfl:k=n:=by omega
   have hi:=qe.own hO (by
    unfold zV;have:=qji (λx=>l.contains x) (zo k);rw[zk] at this;omega)
   have HI:=qgr hi;clear hG hO hi;go_wp2;go_ret;exact⟨_,rfl,HG.out,HI.out.mono (qkl HA.out.symm) (qgw _)⟩
theorem Yo(la ha lb hb:Nat)(va vb:qgx)(a b:List Int)(w:qgt)(hA:qe la ha w va a)(hB:qe lb hb w vb b) :qhx Ya 47 #[va,vb] w λe w'=>e=.returned (.bool (decide (zq a b<0)))/\w.grownBy w' none:=by
 obtain⟨ba,ca,rfl,d5,-⟩:=hA.cell;obtain⟨bb,cb,rfl,hl2,-⟩:=hB.cell;have c8:=qgr hA;have c3:=qgr hB;clear hA hB;go_enter Tp.x47,Tryz.ntmps47;go_wp2;go_loopw [5] (λiv wr=>∃k:Nat,iv=.int .i64 k/\k<=a.length/\k<=b.length/\zq a b=zq (a.drop k) (b.drop k)/\w.grownBy wr none) (λiv _=>(a.length - qia iv).toNat)
 case atStart=>exact⟨0,rfl,by omega,by omega,rfl,qh6 _ _⟩
 case round=>
  obtain⟨k,rfl,d7,d6,hc,hG⟩:=hrel;have HC:=qgr hc;have HG:=qgr hG;clear hc;by_cases h1:k<a.length
  ·have d9:(k:Int)<(a.length:Int):=by omega
   have e4:((k:Int) == (a.length:Int))=false:=by rw[beq_eq_false_iff_ne];omega
   by_cases h2:k<b.length
   ·have d8:(k:Int)<(b.length:Int):=by omega
    have a8:((k:Int) == (b.length:Int))=false:=by rw[beq_eq_false_iff_ne];omega
    obtain⟨x,e1⟩:∃x,a[k]?=some x:=⟨_,qgB h1⟩;obtain⟨y,e2⟩:∃y,b[k]?=some y:=⟨_,qgB h2⟩;obtain⟨_,_,ea,_,b0⟩:=(c8.out.kept hG (by simp)).cell;injection ea with ea1 _ ea3;subst ea1 ea3;obtain⟨A1,o1,rfl,-,-,-,b7⟩:=b0 (by intro e;rw[e] at h1;simp at h1);obtain⟨_,_,eb,_,a9⟩:=(c3.out.kept hG (by simp)).cell;injection eb with eb1 _ eb3;subst eb1 eb3;obtain⟨B1,o2,rfl,-,-,-,b6⟩:=a9 (by intro e;rw[e] at h2;simp at h2);have x1:=b7 k h1;have y1:=b6 k h2;rw[e1] at x1;rw[e2] at y1;simp only[qgD] at x1 y1;have b8:=qgr (q0H a b k x y e1 e2);clear b0 a9 b7 b6 e1 e2 hG;have HX:=qgr x1;have HY:=qgr y1;by_cases hxy:x=y
    ·subst hxy;have c9:IntKind.i64.wrap ((k:Int)+1)=(k:Int)+1:=qhm _ (by omega);have b9:=qgr (show zq a b=zq (a.drop (k+1)) (b.drop (k+1)) by rw[HC.out,b8.out,if_neg (by simp[Qx.2 rfl])]);go_upto_region 2 with(fail);go_quiet (fail);go_wp2;go_roundw
     case rel=>exact⟨k+1,by simp,by omega,by omega,b9.out,HG.out.trans (qk _ _ none)⟩
     case measure=>simp[qia];omega
    ·have hne:(x == y)=false:=by rw[beq_eq_false_iff_ne];exact hxy
     have HV:=qgr (show decide (zq a b<0)=decide (x<y) by
      rw[HC.out,b8.out,if_pos (by simpa using mt Qx.1 hxy)];exact decide_eq_decide.2 ZJ)
     clear hxy;go_upto_region 2 with(fail);go_quiet (fail);go_upto_region 6 with(fail);have a7:=qk wr nq none;have x1:=a7.cell HX.out (by simp);have y1:=a7.cell HY.out (by simp);have a6:=qgr (HG.out.trans a7);generalize wr.drewN nq=w3 at x1 y1 a6 ⊢;clear a7;go_quiet (fail);go_wp2;go_ret;exact⟨by rw[HV.out];rfl,a6.out.trans (qk _ _ none)⟩
   ·obtain rfl:k=b.length:=by omega
    have HV:=qgr (show decide (zq a b<0)=false by
     rw[HC.out,qno];cases a.drop b.length<;>simp[zq])
    go_upto_region 2 with(fail);go_quiet (fail);go_wp2;go_ret;exact⟨by rw[HV.out];rfl,HG.out.trans (qk _ _ none)⟩
  ·obtain rfl:k=a.length:=by omega
   by_cases h2:a.length=b.length
   ·have HV:=qgr (show decide (zq a b<0)=false by
     rw[HC.out,h2,qno];cases a.drop b.length<;>simp[zq])
    have a8:((a.length:Int) == (b.length:Int))=true:=by rw[h2];simp
    clear h2;go_upto_region 2 with(fail);go_quiet (fail);go_wp2;go_ret;exact⟨by rw[HV.out];rfl,HG.out.trans (qk _ _ none)⟩
   ·have a8:((a.length:Int) == (b.length:Int))=false:=by rw[beq_eq_false_iff_ne];omega
    have HV:=qgr (show decide (zq a b<0)=true by
     rw[HC.out,qno,qj7 (show a.length<b.length by omega)];simp[zq])
    clear h2;go_upto_region 2 with(fail);go_quiet (fail);go_upto_region 6 with(fail);have a6:=qgr (HG.out.trans (qk wr nq none));generalize wr.drewN nq=w3 at a6 ⊢;go_quiet (fail);go_wp2;go_ret;exact⟨by rw[HV.out];rfl,a6.out.trans (qk _ _ none)⟩
end
section
open Go.RowKit Go.Shelf
attribute [local go_sem] Oper.semAt_some
structure FrmN(w3:qgt)(Bl N:Nat)(W:qgt):Prop where
 os:W.os=w3.os
 tape:W.tape=w3.tape
 output:W.output=w3.output
 size:w3.heap.size<=W.heap.size
 keep:∀k,k<w3.heap.size->k≠Bl->k≠N->W.heap[k]?=w3.heap[k]?
def OrdC(ps:List Par)(lim:Int)(l ws:List Int)(n:Nat)(w:qgt)(v:qgx)(c:Int):Prop :=
 (¬ qK ps l<=lim/\v=.slice none 0 0/\c=10)\/(qK ps l<=lim/\(kX ws).find? (j5 ps lim)=none/\v=.slice none 0 0/\c=11)\/(qK ps l<=lim/\c=0/\∃x,(kX ws).find? (j5 ps lim)=some x/\qe n w.heap.size w v x)
theorem q7H(pv qv:qgx)(ps:List Par)(lim:Int)(l ws:List Int)(w:qgt)(hP:qw 0 w.heap.size w pv ps)(hI:qe 0 w.heap.size w qv l)(hok:YOk ps lim)(hp:PIn ps l)(hS:Qg l ws)(hw:l.Perm ws) :qhx Ya 56 #[.agg #[pv,.int .i64 lim],qv] w λe w'=>∃v c,e=.returned (.tuple #[v,.int .i64 c])/\w.grownBy w' none/\OrdC ps lim l ws w.heap.size w' v c:=by
 obtain⟨yb,yc,rfl,b9,-⟩:=hP.cell;obtain⟨base,cap,rfl,c3,-⟩:=hI.cell;have a8:=qgs w (.cells #[.slice yb ps.length yc,.int .i64 lim] 24) none;have HO:=qgr (Yx 0 w.heap.size _ _ ps lim l _ (hP.kept a8 (by simp)) (hI.kept a8 (by simp)) a8.size hok hp);have HG:=qgr a8;have hm:∀x∈ws,0<=x/\x<5:=λx hx=>by have:=hp.ok x (hw.symm.subset hx);have:=hok.len;omega
 have hn:=hw.nodup_iff.1 hp.nd;have hl:ws.length<=5:=by
  have h1:=Qr 5 ws hn hm;omega
 have HF:=qgr λ(W:qgt) (h:w.grownBy W none)=>q0B (.agg #[.slice yb ps.length yc,.int .i64 lim]) (.slice base l.length cap) ps lim l ws W ⟨_,rfl,(hP.kept h (by simp)).mono (qgw _) h.size⟩ ((hI.kept h (by simp)).mono (qgw _) h.size) hok hS hm hn hl
  (λx h1 h2 h3=>⟨λy hy=>hp.ok y (hw.symm.subset (h3 y hy)),h2,by omega⟩)
 clear a8 hP hI hok hp hS hw hm hn hl;by_cases ht:qK ps l<=lim
 ·rw[show Kc ps lim l=0 from if_pos ht] at HO;have HT:=qgr ht;clear ht;cases hfd:(qN ws ws.length []).find? (j5 ps lim) with
  | none=>
   rw[hfd] at HF;have b6:=qgr hfd;clear hfd;go_enter Tp.x56,qqd;go_wp2_with (first
    | (go_at_call 81;go_must (refine HO.out.mono ?_);rintro e w2 ⟨rfl,a6⟩;have a7:=qgr ((HG.out.trans a6).trans (qgs w2 (.cells #[.slice yb ps.length yc,.int .i64 lim] 91) none));clear a6)
    | (go_at_call 102;refine(HF.out _ a7.out).mono ?_;rintro e w3 ⟨a9,⟨x,v',hx,-⟩ | ⟨-,rfl⟩⟩;cases hx;have b0:=qgr a9;clear a9))
   go_ret2;exact⟨_,_,rfl,a7.out.trans b0.out,Or.inr (Or.inl ⟨HT.out,b6.out,rfl,rfl⟩)⟩
  | some p=>
   rw[hfd] at HF;have b6:=qgr hfd;clear hfd;go_enter Tp.x56,qqd;go_wp2_with (first
    | (go_at_call 81;go_must (refine HO.out.mono ?_);rintro e w2 ⟨rfl,a6⟩;have a7:=qgr ((HG.out.trans a6).trans (qgs w2 (.cells #[.slice yb ps.length yc,.int .i64 lim] 91) none));clear a6)
    | (go_at_call 102;refine(HF.out _ a7.out).mono ?_;rintro e w3 ⟨a9,⟨x,v',hx,rfl,b7⟩ | ⟨hx,-⟩⟩<;>cases hx;have b0:=qgr a9;have b8:=qgr b7;clear a9 b7))
   go_ret2;exact⟨_,_,rfl,a7.out.trans b0.out,Or.inr (Or.inr ⟨HT.out,rfl,p,b6.out,b8.out.mono a7.out.size (qgw _)⟩)⟩
 ·rw[show Kc ps lim l=10 from if_neg ht] at HO;go_enter Tp.x56,qqd;go_wp2_with (first
   | (go_at_call 81;go_must (refine HO.out.mono ?_);rintro e w2 ⟨rfl,a6⟩;have a7:=qgr (HG.out.trans a6);clear a6))
  go_ret2;exact⟨_,_,rfl,a7.out.trans (qgs _ _ none),Or.inl ⟨by omega,rfl,rfl⟩⟩
end
section
open Go.RowKit
theorem q2x(ps:List Par)(lim:Int)(x:List Int)(pv qv:qgx)(w:qgt)(hP:qw 0 w.heap.size w pv ps)(hI:qe 0 w.heap.size w qv x)(hok:YOk ps lim)(hp:PIn ps x) :qhx Ya 37 #[.agg #[pv,.int .i64 lim],qv] w λe w'=>∃v c:Int,e=.returned (.tuple #[.int .i64 v,.int .i64 c])/\w.grownBy w' none/\((j5 ps lim x=true->v=1/\c=0)/\(j5 ps lim x=false->(qK ps x<=lim->¬ v=1/\c=0)/\(¬ qK ps x<=lim->c=10))):=by
 refine(q2y 0 w.heap.size pv qv ps lim x w hP hI (qgw _) hok hp).mono ?_;rintro e w' ⟨v,rfl,hv,hg⟩;refine⟨v,_,rfl,hg,λh=>?_,λh=>⟨λht=>?_,λht=>if_neg ht⟩⟩
 ·obtain⟨h1,h2⟩:=(Jt hok).1 h;exact⟨(hv h1).trans h2,if_pos h1⟩
 ·refine⟨λh2=>?_,if_pos ht⟩;have:=(Jt hok).2 ⟨ht,(hv ht).symm.trans h2⟩;rw[h] at this;cases this
end
section
open Go Go.RowKit Go.Co Go.Sim Go.Conc Go.ConcN
theorem Ju{ps:List Par}{M:List (List Int)}:∀{Ls:List (List (List Int))} {k:Nat} {st:Int},Ls[k]?=some M->(∀j N,j<k->Ls[j]?=some N->(zQ ps N).1=false)->(zQ ps M).1=true->jO ps Ls st=some (st+k,(zQ ps M).2)
 | [],k,st,hk,_,_=>by simp at hk
 | N::Ls,0,st,hk,_,h=>by
  simp at hk;subst hk;unfold jO;rw[if_pos h];simp
 | N::Ls,k+1,st,hk,hb,h=>by
  unfold jO;rw[if_neg (by rw[hb 0 N (by omega) rfl];simp),Ju (by simpa using hk) (λj N hj hN=>hb (j+1) N (by omega) (by simpa using hN)) h];simp only[qht,Prod.mk.injEq,and_true];omega
theorem q40{ps:List Par}:∀{Ls:List (List (List Int))} {st:Int},(∀L∈Ls,(zQ ps L).1=false)->jO ps Ls st=none
 | [],_,_=>rfl
 | L::Ls,st,h=>by
  unfold jO;rw[if_neg (by rw[h L (by simp)];simp)];exact q40 λM hM=>h M (by simp[hM])
theorem q6d{ps:List Par}{L:List (List Int)}{i:Nat}{s:List Int}(h:L[i]?=some s):zQ ps (L.take (i+1))=if qu ps (pre Par.mx ps ps.length) s=true then(true,if(zQ ps (L.take i)).1=true/\vN s (zQ ps (L.take i)).2=false then(zQ ps (L.take i)).2 else s) else zQ ps (L.take i):=by
 rw[qi7,h];unfold zQ;rw[List.foldl_append];rfl
def mN:Option (Int × List Int)->Int
 | some p=>p.1
 | none=>0
def mL:Option (Int × List Int)->List Int
 | some p=>p.2
 | none=>[]
def mE:Option (Int × List Int)->Int
 | some _=>0
 | none=>11
def oE:Option (List Int)->Int
 | some _=>0
 | none=>11
theorem qat(pv qv:qgx)(ps:List Par)(lim:Int)(l ws:List Int)(w:qgt)(hP:qw 0 w.heap.size w pv ps)(hI:qe 0 w.heap.size w qv l)(hok:YOk ps lim)(hp:POk ps lim l){Ls:List (List (List Int))}(hM:qe9 ps lim l ws Ls) :qhx Ya 54 #[.agg #[pv,.int .i64 lim],qv] w λe w'=>∃v,e=.returned (.tuple #[.int .i64 (mN (jO ps Ls 0)),v,.int .i64 (mE (jO ps Ls 0))])/\w.grownBy w' none/\qe 0 w'.heap.size w' v (mL (jO ps Ls 0)):=by
 refine(q6z pv qv ps lim l w hP hI hok hp 20 (by omega) _ hM.mend).mono ?_;rintro e w' ⟨hg,h⟩;cases ho:jO ps Ls 0 with
 | none=>
  rw[ho] at h;exact⟨_,h,hg,qe.nil _ _ _⟩
 | some p=>
  rw[ho] at h;obtain⟨v,rfl,hi⟩:=h;exact⟨v,rfl,hg,hi⟩
theorem q80(pv qv:qgx)(ps:List Par)(lim:Int)(l ws:List Int)(w:qgt)(hP:qw 0 w.heap.size w pv ps)(hI:qe 0 w.heap.size w qv l)(hok:YOk ps lim)(hp:POk ps lim l)(hS:Qg l ws)(hw:l.Perm ws) :qhx Ya 56 #[.agg #[pv,.int .i64 lim],qv] w λe w'=>∃v,e=.returned (.tuple #[v,.int .i64 (oE ((qN ws ws.length []).find? (j5 ps lim)))])/\w.grownBy w' none/\qe 0 w'.heap.size w' v (((qN ws ws.length []).find? (j5 ps lim)).getD []):=by
 refine(q7H pv qv ps lim l ws w hP hI hok hp.pin hS hw).mono ?_;rintro e w' ⟨v,c,rfl,hg,h⟩;rcases h with h | h | h
 ·exact absurd hp.tall h.1
 ·obtain⟨-,h2,rfl,rfl⟩:=h;unfold kX at h2;rw[h2];exact⟨_,rfl,hg,qe.nil _ _ _⟩
 ·obtain⟨-,rfl,p,h2,h3⟩:=h;unfold kX at h2;rw[h2];exact⟨_,rfl,hg,h3.mono (qhz _) (qgw _)⟩
theorem Qi.up{h1 h2:Nat}{w:qgt}{v:qgx}{Ls:List (List (List Int))}(h:Qi h1 w v Ls)(hh:h1<=h2):Qi h2 w v Ls:=by
 obtain⟨a,c,rfl,h3⟩:=h;refine⟨a,c,rfl,λhp=>?_⟩;obtain⟨g,rfl,h4,h5⟩:=h3 hp;refine⟨g,rfl,qh2 h4 hh,λj L hL=>?_⟩;obtain⟨x,hx,hi⟩:=h5 j L hL;refine⟨x,hx,?_⟩;obtain⟨a,c,rfl,h3⟩:=hi;refine⟨a,c,rfl,λhp=>?_⟩;obtain⟨g,rfl,h4,h5,h6⟩:=h3 hp;refine⟨g,rfl,qh2 h4 hh,h5,λj l hl=>?_⟩;obtain⟨x,hx,hi⟩:=h6 j l hl;exact⟨x,hx,hi.mono (qgw _) hh⟩
structure q2c(ps:List Par)(lim:Int)(l:List Int)(yb:Option qi2)(yc:Nat)(lb:Option qi2)(lc X:Nat)(gb_:Option qi2)(gc:Nat)(fb:Option qi2)(fc VB vc:Nat)(o:Option (Int × List Int))(fd:Option (List Int))(Ls:List (List (List Int)))(q:qgt):Prop where
 x:q.heap[X]?=some (.cells #[.slice yb ps.length yc,.int .i64 lim] 24 (0,0))
 p:qw 0 q.heap.size q (.slice yb ps.length yc) ps
 i:qe 0 q.heap.size q (.slice lb l.length lc) l
 m:qe 0 q.heap.size q (.slice gb_ (mL o).length gc) (mL o)
 f:qe 0 q.heap.size q (.slice fb (fd.getD []).length fc) (fd.getD [])
 v:Qi q.heap.size q (.slice (some ⟨VB,0,none⟩) Ls.length vc) Ls
theorem q2c.kept{ps:List Par}{lim:Int}{l:List Int}{yb:Option qi2}{yc:Nat}{lb:Option qi2}{lc X:Nat}{gb_:Option qi2}{gc:Nat}{fb:Option qi2}{fc VB vc:Nat}{o:Option (Int × List Int)}{fd:Option (List Int)}{Ls:List (List (List Int))}{u w:qgt}(h:q2c ps lim l yb yc lb lc X gb_ gc fb fc VB vc o fd Ls u)(hg:u.grownBy w none):q2c ps lim l yb yc lb lc X gb_ gc fb fc VB vc o fd Ls w :=
 ⟨blk hg (by simp) h.x,(h.p.kept hg (by simp)).mono (qgw _) hg.size,(h.i.kept hg (by simp)).mono (qgw _) hg.size,(h.m.kept hg (by simp)).mono (qgw _) hg.size,(h.f.kept hg (by simp)).mono (qgw _) hg.size,(h.v.kept hg).up hg.size⟩
theorem Qi.at{hi:Nat}{w:qgt}{VB n vc:Nat}{Ls:List (List (List Int))}(h:Qi hi w (.slice (some ⟨VB,0,none⟩) n vc) Ls){j:Nat}{L:List (List Int)}(hL:Ls[j]?=some L):∃b c,w.cell? ⟨VB,j,none⟩=some (.slice b L.length c)/\∀(i:Nat) s,L[i]?=some s->∃g xb xc,b=some ⟨g,0,none⟩/\w.cell? ⟨g,i,none⟩=some (.slice xb s.length xc)/\qe 0 hi w (.slice xb s.length xc) s:=by
 obtain⟨a,c,e,h1⟩:=h;injection e with e1 _ _;obtain⟨g,e2,-,h2⟩:=h1 (by have:=(qh0.1 hL).1;omega);rw[e2] at e1;cases e1;obtain⟨x,hx,a2,c2,rfl,h3⟩:=h2 j L hL;refine⟨a2,c2,hx,λi s hs=>?_⟩;obtain⟨g2,rfl,-,-,h4⟩:=h3 (by have:=(qh0.1 hs).1;omega);obtain⟨y,hy,hyi⟩:=h4 i s hs;obtain⟨xb,xc,rfl,-,-⟩:=hyi.cell;exact⟨g2,xb,xc,rfl,hy,hyi⟩
theorem arrN(N:Nat)(z:Array qgx)(h:z.size=N):∃t:Nat->qgx,(∀(j:Nat) (v:qgx),z[j]?=some v->t j=v)/\z=((qhl N).map t).toArray:=by
 have e:=xr z;rw[h] at e;exact⟨λj=>z[j]?.getD qgz,λj v hv=>by simp[hv],e⟩
theorem qbn[JunkSet]{f:qi8}{Post:qgx->qgt->Prop}{W:qgt}(D:Two Ya qh3){b:qgH}{cs:List qgH}{k:List qkz}{c:qj9}(hb:Bot f cs)(hs:Ya.funcs[b.fn]?=Tryz.prog.funcs[b.fn]?)(a6:Nat->Act->qgt->Prop)(h:∀n a u,a6 n a u->(∀n' a' u',n'<n->a6 n' a' u'->EL Ya qh3 f Post W (G (b.at a' (.inLoop c::k)) cs) u')->EL Ya qh3 f Post W (G (b.at a (.code c::.inLoop c::k)) cs) u){n:Nat}{a:Act}{u:qgt}(h0:a6 n a u) :EL Ya qh3 f Post W (G (b.at a (.code (.loop c)::k)) cs) u :=
 have key:∀n a u,a6 n a u->EL Ya qh3 f Post W (G (b.at a (.code c::.inLoop c::k)) cs) u:=λn=>by
  induction n using qmB with
  | _ n ih=>exact λa u hi=>h n a u hi λn' a' u' hlt a7=>EL.inLoop D hb hs (ih n' hlt a' u' a7)
 EL.loop D hb hs (key n a u h0)
section
variable[J:JunkSet]{Post:qgx->qgt->Prop}{W:qgt}
theorem el10(D:Two Ya qh3)(hok:JunkSet.okf 137)(r4:∀i,¬ JunkSet.jk i)(hin:Ya.inits.idxOf? 10=none)(h9:Tryz.prog.inits.idxOf? 10=none){base:Option qi2}{len cap:Nat}{wq:qgt}(hl:(len:Int)<=9223372036854775807)(hr:0<len->∃lb lo,base=some ⟨lb,lo,none⟩/\∀i,i<len->∃x,wq.cell? ⟨lb,lo+i,none⟩=some (.int .i64 x))(h0:qW wq 0)(d9:∀w,(∀j,j<W.heap.size->w.heap[j]?=W.heap[j]?)->w.os=W.os->w.output=W.output->W.heap.size<=w.heap.size->Post (.bool true) w) :EL Ya qh3 10 Post W (G (qhy Ya 10 #[.slice base len cap] .normal) [ql 10]) wq:=by
 have hs:Ya.funcs[(qhf 10).fn]?=Tryz.prog.funcs[(qhf 10).fn]?:=zh 10 (by decide);have hb:Bot 10 [ql 10]:=⟨[],rfl⟩;rw[q8c (fn:=qnd) (c0:=Tryz.f10.body.getD .skip) Tp.x10 (by kernel_rfl)];simp only[qnd,qgD];walk_nrm;refine EL.sp D hb hs λT=>?_;go_wp2;refine EL.tape (wq:=wq) ?_ T;refine EL.sp D hb hs λT=>?_;have HR:=qgr hr;clear hr;go_wp2_with (first
  | (go_at_call 24;refine(q5p base len cap (wq.tp T) hl HR.out).mono ?_;rintro e w2 ⟨rfl,hg2,ht2⟩;have G2:=qgr hg2;have T2:=qgr ht2;clear hg2 ht2))
 obtain⟨b,m8⟩:∃b,b=(wq.tp T).heap.size:=⟨_,rfl⟩;rw[<- m8] at T2 ⊢;have n7:=qgr (show b=wq.heap.size from m8);refine jA (λu=>(wq.tp u.tape).grownBy u none/\qS u b 0) ⟨tpg G2.out,T2.out⟩ λu1 hF=>?_;obtain⟨g1,t1⟩:=hF;clear G2 T2 m8 HR;refine EL.sp D hb hs λT=>?_;go_wp2_with (first
  | (go_at_call 33;refine(q4w b 0 5 (u1.tp T) t1 (by omega) (by omega)).mono ?_;rintro e w2 ⟨ps,lim,yv,q0,rfl,q7,d6⟩;have N2:=qgr q7;have P2:=qgr d6;have YD:=qgr q0;obtain⟨yb,yc,rfl,-,-⟩:=d6.cell;clear q7 d6 q0))
 obtain⟨X,hX⟩:∃X,X=w2.heap.size:=⟨_,rfl⟩;rw[<- hX];have r9:b<u1.heap.size:=t1.lt;have m3:=qgs w2 (.cells #[.slice yb ps.length yc,.int .i64 lim] 24) none;refine jA (λq=>(wq.tp q.tape).grownBy q none/\qS q b 38/\q.heap[X]?=some (.cells #[.slice yb ps.length yc,.int .i64 lim] 24 (0,0))/\qw u1.heap.size q.heap.size q (.slice yb ps.length yc) ps) ⟨gb (qb8 g1 (tpg N2.out.1) (qkl n7.out.symm)) (tpg (T:=w2.tape) m3),N2.out.2.alloc _,by rw[hX];exact qgC _ _,(P2.out.alloc _).mono (qgw _) m3.size⟩ λu2 hF=>?_;obtain⟨g2,t2,x2,p2⟩:=hF;have b7:=qgr (YD.out.yok (qgw _));have x7:ps.length<=5:=b7.out.len;clear m3 N2 P2 hX g1 t1 YD;refine EL.sp D hb hs λT=>?_;have c0:=q9 (w:=u2.tp T) x2 (o:=0) rfl;have c1:=q9 (w:=u2.tp T) x2 (o:=1) rfl;go_wp2_with (first
  | (go_at_call 34;refine(q5y b 38 u1.heap.size _ ps lim (u2.tp T) t2 (by omega) p2 r9 b7.out.len (by have:=b7.out.l1;omega) (by have:=b7.out.l2;omega) (λp hp=>by have:=b7.out.each p hp;omega)).mono ?_;rintro e w3 ⟨l,lv,q4,rfl,q6,l6⟩;have N3:=qgr q6;have I3:=qgr l6;have PK:=qgr q4;obtain⟨lb,lc,rfl,-,-⟩:=l6.cell;clear q6 l6 q4))
 have s3:b≠X:=λe=>by
  have h:=x2;obtain⟨_,_,_,_,_,_,t8,_⟩:=t2;rw[<- e,t8] at h;injection h with h;injection h with _ h _;exact absurd h (by decide)
 refine jA (λq=>(wq.tp q.tape).grownBy q none/\q.heap[X]?=some (.cells #[.slice yb ps.length yc,.int .i64 lim] 24 (0,0))/\qw 0 q.heap.size q (.slice yb ps.length yc) ps/\qe 0 q.heap.size q (.slice lb l.length lc) l) ⟨qb8 g2 (tpg N3.out.1) (qkl n7.out.symm),blk (w:=u2.tp T) N3.out.1 (by simpa using s3.symm) x2,(qw.kept (w:=u2.tp T) p2 N3.out.1 (λR e=>by cases e;exact .inl r9)).mono (qhz _) N3.out.1.size,I3.out.mono (qhz _) (qgw _)⟩ λu3 hF=>?_;obtain⟨g3,x3,p3,i3⟩:=hF;clear N3 I3 g2 t2 x2 p2 c0 c1 s3 n7;have r3:l.length<=5:=by have:=Qr ps.length l PK.out.nd PK.out.ok;omega
 obtain⟨ws,q1⟩:∃ws,ws=zM l.length l:=⟨_,rfl⟩;have b6:=q5t PK.out.nd;have k6:=q0b (l:=l) (by omega);rw[<- q1] at b6 k6;have s5:=qgr b6.1;have s7:=qgr k6;obtain⟨Ls,m9⟩:∃Ls,Ls=lvl l.length 20 [l] [l]:=⟨_,rfl⟩;have e8:=qau r3 PK.out b6.1 b6.2;rw[<- m9] at e8;have a8:=qgr e8;have s9:=qgr m9;have v8:Ls.length<=20:=e8.many;clear q1 b6 k6 e8 m9;refine EL.sp D hb hs λT=>?_;have c0:=q9 (w:=u3.tp T) x3 (o:=0) rfl;have c1:=q9 (w:=u3.tp T) x3 (o:=1) rfl;go_wp2_with (first
  | (go_at_call 54;refine(qat _ _ ps lim l ws (u3.tp T) p3 i3 b7.out PK.out a8.out).mono ?_;rintro e w4 ⟨gv,rfl,r7,l5⟩;have G4:=qgr r7;have I4:=qgr l5;obtain⟨gb_,gc,rfl,-,-⟩:=l5.cell;clear r7 l5))
 obtain⟨o,ho⟩:∃o,o=jO ps Ls 0:=⟨_,rfl⟩;rw[<- ho] at I4 ⊢;have HO:=qgr ho;refine jA (λq=>(wq.tp q.tape).grownBy q none/\q.heap[X]?=some (.cells #[.slice yb ps.length yc,.int .i64 lim] 24 (0,0))/\qw 0 q.heap.size q (.slice yb ps.length yc) ps/\qe 0 q.heap.size q (.slice lb l.length lc) l/\qe 0 q.heap.size q (.slice gb_ (mL o).length gc) (mL o)) ⟨gb g3 (tpg G4.out),blk (w:=u3.tp T) G4.out (by simp) x3,(qw.kept (w:=u3.tp T) p3 G4.out (by simp)).mono (qgw _) G4.out.size,(qe.kept (w:=u3.tp T) i3 G4.out (by simp)).mono (qgw _) G4.out.size,I4.out⟩ λu4 hF=>?_;obtain⟨g4,x4,p4,i4,m4⟩:=hF;clear G4 I4 g3 x3 p3 i3 c0 c1 ho;refine EL.sp D hb hs λT=>?_;have c0:=q9 (w:=u4.tp T) x4 (o:=0) rfl;have c1:=q9 (w:=u4.tp T) x4 (o:=1) rfl;go_wp2_with (first
  | (go_at_call 56;refine(q80 _ _ ps lim l ws (u4.tp T) p4 i4 b7.out PK.out s7.out s5.out.symm).mono ?_;rintro e w5 ⟨fv,rfl,r6,l4⟩;have G5:=qgr r6;have I5:=qgr l4;obtain⟨fb,fc,rfl,-,-⟩:=l4.cell;clear r6 l4))
 obtain⟨fd,hfd⟩:∃fd,fd=(qN ws ws.length []).find? (j5 ps lim):=⟨_,rfl⟩;rw[<- hfd] at I5 ⊢;have h8:=qgr hfd;refine jA (λq=>(wq.tp q.tape).grownBy q none/\q.heap[X]?=some (.cells #[.slice yb ps.length yc,.int .i64 lim] 24 (0,0))/\qw 0 q.heap.size q (.slice yb ps.length yc) ps/\qe 0 q.heap.size q (.slice lb l.length lc) l/\qe 0 q.heap.size q (.slice gb_ (mL o).length gc) (mL o)/\qe 0 q.heap.size q (.slice fb (fd.getD []).length fc) (fd.getD [])) ⟨gb g4 (tpg G5.out),blk (w:=u4.tp T) G5.out (by simp) x4,(qw.kept (w:=u4.tp T) p4 G5.out (by simp)).mono (qgw _) G5.out.size,(qe.kept (w:=u4.tp T) i4 G5.out (by simp)).mono (qgw _) G5.out.size,(qe.kept (w:=u4.tp T) m4 G5.out (by simp)).mono (qgw _) G5.out.size,I5.out⟩ λu5 hF=>?_;obtain⟨g5,x5,p5,i5,m5,f5⟩:=hF;clear G5 I5 g4 x4 p4 i4 m4 c0 c1 hfd;refine EL.sp D hb hs λT=>?_;go_wp2_with (first
  | (go_at_call 58;go_must (refine(q5d 0 _ _ l (u5.tp T) i5 (qgw _) r3 Ls s9.out a8.out.end' (λL hL=>⟨a8.out.len L hL,λs hs=>(a8.out.mem L hL s hs).length_eq⟩)).mono ?_);rintro e w6 ⟨vv,rfl,r5,q3⟩;have G6:=qgr r5;have V6:=qgr q3;obtain⟨vb,vc,rfl,q2⟩:=q3;have V7:=qgr q2;clear r5 q2))
 obtain⟨VB,rfl,-⟩:=V7.out (qkf.2 λe=>by have:=a8.out.end';rw[e] at this;cases this);have r8:q2c ps lim l yb yc lb lc X gb_ gc fb fc VB vc o fd Ls w6:=⟨blk (w:=u5.tp T) G6.out (by simp) x5,(qw.kept (w:=u5.tp T) p5 G6.out (by simp)).mono (qgw _) G6.out.size,(qe.kept (w:=u5.tp T) i5 G6.out (by simp)).mono (qgw _) G6.out.size,(qe.kept (w:=u5.tp T) m5 G6.out (by simp)).mono (qgw _) G6.out.size,(qe.kept (w:=u5.tp T) f5 G6.out (by simp)).mono (qgw _) G6.out.size,V6.out⟩;refine jA (λq=>(wq.tp q.tape).grownBy q none/\q2c ps lim l yb yc lb lc X gb_ gc fb fc VB vc o fd Ls q) ⟨gb g5 (tpg G6.out),r8⟩ λu6 hF=>?_;obtain⟨g6,f6⟩:=hF;clear G6 V6 V7 r8 g5 x5 p5 i5 m5 f5 s5 s7 s9;refine EL.seq D hb hs ?_;refine EL.sp D hb hs λT=>?_;go_wp2;refine EL.tape (wq:=u6) ?_ T;refine EL.block D hb hs ?_;refine qbn D hb hs (λn a u=>∃(k:Nat) (z:Array qgx),n=Ls.length - k/\k<=Ls.length/\a=⟨z,[]⟩/\z.size=161/\z[4]?=some (.pointer (some ⟨X,0,none⟩))/\z[5]?=some (.slice lb l.length lc)/\z[6]?=some (.int .i64 (mN o))/\z[7]?=some (.slice gb_ (mL o).length gc)/\z[8]?=some (.int .i64 (mE o))/\z[9]?=some (.slice fb (fd.getD []).length fc)/\z[10]?=some (.int .i64 (oE fd))/\z[11]?=some (.slice (some ⟨VB,0,none⟩) Ls.length vc)/\z[12]?=some (.int .i64 k)/\(wq.tp u.tape).grownBy u none/\q2c ps lim l yb yc lb lc X gb_ gc fb fc VB vc o fd Ls u/\∀j M,j<k->Ls[j]?=some M->(zQ ps M).1=false) ?round ⟨0,_,rfl,qhz _,rfl,rfl,rfl,rfl,rfl,rfl,rfl,rfl,rfl,rfl,rfl,g6,f6,λj M hj=>by omega⟩;clear g6 f6;rintro n a u ⟨k,z,rfl,hk,rfl,hz,z4,z5,z6,z7,z8,z9,p7,p6,n8,gu,hf,k0⟩ ih;obtain⟨t,ht,p9⟩:=arrN 161 z hz;simp only[qhl,qi0,qjr,qln,ht 4 _ z4,ht 5 _ z5,ht 6 _ z6,ht 7 _ z7,ht 8 _ z8,ht 9 _ z9,ht 10 _ p7,ht 11 _ p6,ht 12 _ n8] at p9;clear ht;subst p9;clear hz z4 z5 z6 z7 z8 z9 p7 p6 n8;have e6:=qgr k0;have c8:=qgr hf;have n6:=qgr gu;clear k0 hf gu;by_cases hlt:k<Ls.length
 ·obtain⟨L,hL⟩:∃L,Ls[k]?=some L:=⟨_,qgB hlt⟩;have z1:(k:Int)<(Ls.length:Int):=by omega
  have n2:=qhc hL;have hL1:L.length<=100:=a8.out.len L n2;have s8:=qgr (a8.out.mem L n2);have HL:=qgr hL;clear hL n2;refine EL.sp D hb hs λT=>?_;go_wp2;refine EL.tape (wq:=u) ?_ T;refine EL.seq D hb hs ?_;refine EL.block D hb hs ?_;refine EL.sp D hb hs λT=>?_;go_wp2;refine EL.tape (wq:=u) ?_ T;refine EL.sp D hb hs λT=>?_;go_wp2;refine EL.tape (wq:=u) ?_ T;refine EL.sp D hb hs λT=>?_;have HF:=qgr λ(w:qgt) (h:(u.tp T).grownBy w none)=>q2c.kept (u:=u.tp T) ⟨c8.out.x,c8.out.p,c8.out.i,c8.out.m,c8.out.f,c8.out.v⟩ h;go_wp2;go_loopw [13,14,15] (λbv sv iv wr=>∃i:Nat,iv=.int .i64 i/\i<=L.length/\sv=.bool (zQ ps (L.take i)).1/\(u.tp T).grownBy wr none/\qe 0 wr.heap.size wr bv (zQ ps (L.take i)).2) (λ_ _ iv _=>(L.length - qia iv).toNat)
  case atStart=>exact⟨0,rfl,by omega,rfl,qh6 _ _,qe.nil _ _ _⟩
  case round=>
   obtain⟨i,rfl,hi,rfl,hG,hN⟩:=hrel;obtain⟨nb,nc,rfl,-,-⟩:=hN.cell;have HG:=qgr hG;have HN:=qgr hN;have b9:=HF.out _ hG;obtain⟨x1,p8,e9,d8⟩:=b9.v.at HL.out;by_cases t5:i<L.length
   ·obtain⟨s,e7⟩:∃s,L[i]?=some s:=⟨_,qgB t5⟩;have z0:(i:Int)<(L.length:Int):=by omega
    obtain⟨R,xb,xc,rfl,m7,k5⟩:=d8 i s e7;have e4:=s8.out s (qhc e7);have v3:=qgr (show PIn ps s from⟨λx hx=>PK.out.ok x (e4.subset hx),e4.nodup_iff.2 PK.out.nd,by rw[e4.length_eq];omega⟩);have s6:=qgr (show qK ps s<=lim by rw[QT ps e4];exact PK.out.tall);have c9:=qgr (q6d (ps:=ps) e7);obtain⟨B,hB⟩:∃B,B=zQ ps (L.take i):=⟨_,rfl⟩;rw[<- hB] at HN c9 ⊢;have c0:=q9 b9.x (o:=0) rfl;have c1:=q9 b9.x (o:=1) rfl;have m6:=qg wr none;have HC:=qgr (q2x ps lim s (.slice yb ps.length yc) _ wr.drew (b9.p.kept m6 (by simp)) (k5.kept m6 (by simp)) b7.out v3.out);have b0:=qgr λ(w5:qgt) (h:wr.drew.grownBy w5 none)=>((qg wr none).trans h:wr.grownBy w5 none);have n4:=qgr (show ∀w5,wr.drew.grownBy w5 none->w5.cell? ⟨X,0,none⟩=some (.slice yb ps.length yc)/\w5.cell? ⟨X,1,none⟩=some (.int .i64 lim)/\w5.cell? ⟨VB,k,none⟩=some (.slice (some ⟨R,0,none⟩) L.length p8)/\w5.cell? ⟨R,i,none⟩=some (.slice xb s.length xc) from λw5 h=>⟨(b0.out _ h).cell c0 (by simp),(b0.out _ h).cell c1 (by simp),(b0.out _ h).cell e9 (by simp),(b0.out _ h).cell m7 (by simp)⟩);have s4:=qgr k5;clear hG hN b9 d8 e7 k5 e4 hB m6;go_upto_region 15 with(fail);refine qU 13 (λw'=>w'.cell? ⟨X,0,none⟩=some (.slice yb ps.length yc)/\w'.cell? ⟨X,1,none⟩=some (.int .i64 lim)/\w'.cell? ⟨VB,k,none⟩=some (.slice (some ⟨R,0,none⟩) L.length p8)/\w'.cell? ⟨R,i,none⟩=some (.slice xb s.length xc)) (by kernel_rfl) (by kernel_rfl) ⟨c0,c1,e9,m7⟩ (λa6=>?_);simp only[qh1,qh7,qhj,qir,qhd,qhr,qhs,qi1,qhn,qha];refine tk 0 (h:=tk 1 (h:=tk 2 (h:=tk 3 (h:=tk 4 (h:=tk 5 (h:=tk 6 (h:=tk 7 (h:=?_))))))));try go_frame
    refine rdy [8] ?_;refine cns 8 (λK hK=>?_) ?_
    ·go_simp;go_at_call 37;refine HC.out.mono ?_;rintro e w6 ⟨v,c,rfl,hg,h1,h2⟩;have H6:=qgr (HG.out.trans (b0.out _ hg));have t4:=n4.out _ hg;obtain⟨-,-,d2,d3⟩:=t4;have n3:=qgr ((s4.out.kept (b0.out _ hg) (by simp)).mono (qgw _) (b0.out _ hg).size);have g8:=qgr ((HN.out.kept (b0.out _ hg) (by simp)).mono (qgw _) (b0.out _ hg).size);refine hK.out _ _ (n4.out _ hg) (λa6=>?_);clear hK K hg HN s4 HC n4 b0 c0 c1 e9 m7;try go_frame
     refine tk 9 (h:=tk 10 (h:=tk 11 (h:=tk 12 (h:=?_))));try go_frame
     refine⟨by kernel_rfl,?_⟩;simp only[qhA,qio];clear a6;have d7:j5 ps lim s=qu ps (pre Par.mx ps ps.length) s:=by unfold j5;rw[decide_eq_true s6.out,qm9]
     cases hf:qu ps (pre Par.mx ps ps.length) s with
     | false=>
      rw[hf] at d7 c9;obtain⟨hv,rfl⟩:=(h2 d7).1 s6.out;have hv2:(v == 1)=false:=by rw[beq_eq_false_iff_ne];exact hv
      have c3:=c9.out;rw[if_neg (by simp)] at c3;have a7:=qgr c3;clear h1 h2 d7 hv c3 hf c9;go_wp2;go_roundw
      case rel=>exact⟨i+1,by simp,by omega,by rw[a7.out],H6.out,by rw[a7.out];exact g8.out⟩
      case measure=>simp[qia];omega
     | true=>
      rw[hf] at d7 c9;obtain⟨rfl,rfl⟩:=h1 d7;have c3:=c9.out;rw[if_pos rfl] at c3;have a7:=qgr c3;clear h1 h2 d7 c3 hf c9;obtain⟨b1,b2⟩:=B;dsimp only at a7 g8 ⊢;cases b1 with
      | false=>
       go_wp2;go_roundw
       case rel=>exact⟨i+1,by simp,by omega,by rw[a7.out],H6.out,by rw[a7.out];simpa using n3.out⟩
       case measure=>simp[qia];omega
      | true=>
       have g7:=qgr (Yo 0 _ 0 _ _ _ s b2 w6 n3.out g8.out);cases he:vN s b2 with
       | true=>
        rw[show decide (zq s b2<0)=true from he] at g7;rw[he] at a7;clear he;go_wp2_with (first
         | (go_at_call 47;refine g7.out.mono ?_;rintro e w7 ⟨rfl,b8⟩;have G7:=qgr b8;have d4:=b8.cell d2 (by simp);have d5:=b8.cell d3 (by simp);clear b8))
        go_roundw
        case rel=>exact⟨i+1,by simp,by omega,by rw[a7.out],H6.out.trans G7.out,by rw[a7.out];simpa using(n3.out.kept G7.out (by simp)).mono (qgw _) G7.out.size⟩
        case measure=>simp[qia];omega
       | false=>
        rw[show decide (zq s b2<0)=false from he] at g7;rw[he] at a7;clear he;go_wp2_with (first
         | (go_at_call 47;refine g7.out.mono ?_;rintro e w7 ⟨rfl,b8⟩;have G7:=qgr b8;clear b8))
        go_roundw
        case rel=>exact⟨i+1,by simp,by omega,by rw[a7.out],H6.out.trans G7.out,by rw[a7.out];simpa using(g8.out.kept G7.out (by simp)).mono (qgw _) G7.out.size⟩
        case measure=>simp[qia];omega
    ·exact qp.nil
   ·obtain rfl:i=L.length:=by omega
    rw[qiy] at HN ⊢;rw[qiy] at hN;obtain⟨B,hB⟩:∃B,B=zQ ps L:=⟨_,rfl⟩;rw[<- hB] at HN hN ⊢;have HB:=qgr hB;clear hB d8 hN hG;go_wp2;refine jA (λq=>(wq.tp q.tape).grownBy q none/\q2c ps lim l yb yc lb lc X gb_ gc fb fc VB vc o fd Ls q/\qe 0 q.heap.size q (.slice nb B.2.length nc) B.2) ⟨gb n6.out (tpg HG.out),b9,HN.out⟩ λu9 t9=>?_;obtain⟨g9,f9,n9⟩:=t9;clear HF c8 n6 HG HN b9 e9;obtain⟨b1,b2⟩:=B;dsimp only at n9 ⊢;refine EL.sp D hb hs λT=>?_;go_wp2;refine EL.tape (wq:=u9) ?_ T;cases b1 with
    | true=>
     refine EL.cond D hb hs true (by rfl) ?_;simp only[if_true];have k9:=Ju (st:=0) HL.out e6.out (by rw[<- HB.out]);rw[<- HO.out,<- HB.out] at k9;have k8:o=some ((k:Int),b2):=by rw[k9];simp
     subst k8;obtain⟨p,q5,d6,k7,-⟩:=a8.out.yes k b2 HO.out.symm;have hfd:fd=some p:=h8.out.trans q5;subst hfd;have hle:((p.length:Int) == (l.length:Int))=true:=by rw[beq_iff_eq,k7.length_eq]
     have u0:=qgr (show decide (zV p ps.length=zV l ps.length)=true by
      rw[decide_eq_true_eq];unfold zV;refine List.filter_congr λx _=>?_;have:=k7.mem_iff (a:=x);by_cases e:x∈l
      ·simp[e,this.2 e]
      ·simp[e,mt this.1 e])
     have b6:decide (zq b2 p<0)=false:=decide_eq_false d6;have t6:(wq.tp T).grownBy (u9.tp T) none:=⟨g9.os,rfl,g9.output,g9.size,g9.block⟩;clear k9 q5 d6 k7 HL e6 HO h8 HB s8 a8;simp only[mN,mL,mE,oE,qgD];refine EL.seq D hb hs ?_;refine EL.region_chain D hb hs 43 [43,44,45] (by kernel_rfl) (by kernel_rfl) (by kernel_rfl) (by kernel_rfl) λT=>?_;generalize he:zA _ 43=ops';simp only[zA,List.take_succ_cons,List.take_zero,qhA,qio,qjr,qln,qha,qhn,jE] at he;subst he;change wpAny _ _ _ _ _ _ _ (World.drew (u9.tp T));have t3:=qgr (show(wq.tp (u9.tp T).tape).grownBy (u9.tp T) none from⟨g9.os,rfl,g9.output,g9.size,g9.block⟩);have fv:q2c ps lim l yb yc lb lc X gb_ gc fb fc VB vc (some ((k:Int),b2)) (some p) Ls (u9.tp T):=⟨f9.x,f9.p,f9.i,f9.m,f9.f,f9.v⟩;have nv:qe 0 (u9.tp T).heap.size (u9.tp T) (.slice nb b2.length nc) b2:=n9;generalize u9.tp T=v at fv nv t3 ⊢;have x0:=q9 fv.x (o:=0) rfl;have v4:=qgr (show ∀w,v.grownBy w none->qhx Ya 31 #[.slice gb_ b2.length gc,.slice nb b2.length nc] w λe w'=>e=.returned (.bool true)/\w.grownBy w' none from λw h=>by
      have:=zW 0 _ 0 _ (.slice gb_ b2.length gc) (.slice nb b2.length nc) b2 b2 w (fv.m.kept h (by simp)) (nv.kept h (by simp))
      rwa [decide_eq_true rfl] at this)
     have u7:=qgr (show ∀w,v.grownBy w none->qhx Ya 47 #[.slice nb b2.length nc,.slice fb p.length fc] w λe w'=>e=.returned (.bool false)/\w.grownBy w' none from λw h=>by
      have:=Yo 0 _ 0 _ (.slice nb b2.length nc) (.slice fb p.length fc) b2 p w (nv.kept h (by simp)) (fv.f.kept h (by simp))
      rwa [b6] at this)
     have v0:=qgr (λ(w:qgt) (h:v.grownBy w none)=>Jh 0 _ (.slice fb p.length fc) p ps.length w (fv.f.kept h (by simp)) (by omega));have u8:=qgr (λ(w:qgt) (h:v.grownBy w none)=>Jh 0 _ (.slice lb l.length lc) l ps.length w (fv.i.kept h (by simp)) (by omega));have e5:=qgr (show ∀w w':qgt,(v.grownBy w none/\w.cell? ⟨X,0,none⟩=some (.slice yb ps.length yc))->w.grownBy w' none->(v.grownBy w' none/\w'.cell? ⟨X,0,none⟩=some (.slice yb ps.length yc)) from λw w' h hg=>⟨h.1.trans hg,hg.cell h.2 (by simp)⟩);clear b6 fv nv t6 f9 g9 n9;refine qe4 43 (λw=>v.grownBy w none/\w.cell? ⟨X,0,none⟩=some (.slice yb ps.length yc)) (by kernel_rfl) ⟨qg v none,x0⟩ (λa6=>?_);simp only[qh1,qh7,qhj,qir,qhd,qhr,qhs,qi1,qhn,qha];refine tk 0 (h:=tk 1 (h:=tk 2 (h:=tk 3 (h:=tk 4 (h:=tk 5 (h:=tk 6 (h:=tk 7 (h:=tk 8 (h:=tk 9 (h:=tk 10 (h:=tk 11 (h:=tk 12 (h:=tk 13 (h:=?_))))))))))))));try go_frame
     refine rdy [14] ?_;refine cns 14 (λK hK=>?_) ?_
     ·skip;go_simp;go_at_call 31;refine(v4.out _ a6.1).mono ?_;rintro e w6 ⟨rfl,a9⟩;refine hK.out _ _ (e5.out _ _ a6 a9) (λa6=>?_);clear hK K;try go_frame
      refine tk 15 (h:=tk 16 (h:=tk 17 (h:=tk 18 (h:=?_))));try go_frame
      refine rdy [19] ?_;refine cns 19 (λK hK=>?_) ?_
      ·skip;go_simp;go_at_call 47;refine(u7.out _ a6.1).mono ?_;rintro e w7 ⟨rfl,a9⟩;refine hK.out _ _ (e5.out _ _ a6 a9) (λa6=>?_);clear hK K;try go_frame
       refine tk 20 (h:=tk 21 (h:=tk 22 (h:=tk 23 (h:=tk 24 (h:=tk 25 (h:=tk 26 (h:=tk 28 (h:=tk 29 (h:=tk 30 (h:=tk 31 (h:=?_)))))))))));try go_frame
       refine rdy [27] ?_;refine cns 27 (λK hK=>?_) ?_
       ·skip;go_simp;go_at_call 45;refine(v0.out _ a6.1).mono ?_;rintro e w8 ⟨v1,rfl,a9,l8⟩;obtain⟨s1,t1,rfl,-,-⟩:=l8.cell;have v7:=qgr l8;clear l8;refine hK.out _ _ (e5.out _ _ a6 a9) (λa6=>?_);clear hK K;try go_frame
        refine rdy [32] ?_;refine cns 32 (λK hK=>?_) ?_
        ·skip;go_simp;go_at_call 45;refine(u8.out _ a6.1).mono ?_;rintro e w9 ⟨v2,rfl,a9,l7⟩;obtain⟨s2,t2,rfl,-,-⟩:=l7.cell;have v6:=qgr l7;have v5:=qgr (v7.out.kept a9 (by simp));clear l7;refine hK.out _ _ (e5.out _ _ a6 a9) (λa6=>?_);clear hK K;try go_frame
         refine rdy [33] ?_;refine cns 33 (λK hK=>?_) ?_
         ·skip;go_simp;go_at_call 31;refine(zW _ _ _ _ _ _ (zV p ps.length) (zV l ps.length) _ v5.out v6.out).mono ?_;rintro e v9 ⟨rfl,a9⟩;rw[u0.out];refine hK.out _ _ (e5.out _ _ a6 a9) (λa6=>?_);clear hK K;try go_frame
          refine tk 34 (h:=tk 35 (h:=tk 36 (h:=tk 37 (h:=tk 38 (h:=tk 39 (h:=tk 40 (h:=tk 41 (h:=tk 42 (h:=?_)))))))));try go_frame
          refine⟨by kernel_rfl,?_⟩;simp only[qhA,qio];go_wp2;refine jA (λq=>(wq.tp q.tape).grownBy q none) (gb t3.out (tpg (T:=v.tape) a6.1)) λux gx=>?_;refine EL.enter D hb hs (fk:=23) (args:=#[]) rfl rfl (λT=>by rw[qm7 (f:=23) rfl Tp.x23 (by kernel_rfl) rfl];walk_nrm) (zh 23 (by decide)) ?_;refine qg7 D hok r4 hin ⟨_,Tp.x10,qnC⟩ ?_ _ [ql 10] hb hs λv u hR=>?_
          ·obtain⟨cs,e,g,h0,l9⟩:=h0;exact⟨cs,e,g,blk (w:=wq.tp ux.tape) gx (by simp) h0,l9⟩
          obtain⟨rfl,t7⟩:=hR;rw[qjf];walk_nrm;refine EL.list D hb hs [44,45] [_,_] (rest:=[]) rfl λT4=>?_;go_wp2;refine EL.tape (wq:=u) ?_ T4;refine EL.region_end D hb hs ?_;refine EL.retS D hb hs ?_;exact EL.last h9 rfl rfl qnC rfl rfl d9
         exact qp.nil
        exact qp.nil
       exact qp.nil
      exact qp.nil
     exact qp.nil
    | false=>
     refine EL.cond D hb hs false (by rfl) ?_;refine EL.skip D hb hs ?_;refine EL.inBlock D hb hs ?_;refine EL.piece D hb hs λT=>?_;have x6:IntKind.i64.wrap ((k:Int)+1)=(k:Int)+1:=qhm _ (by omega);go_wp2;refine EL.tape (wq:=u9) ?_ T;exact ih _ _ u9 (show Ls.length - (k+1)<Ls.length - k by omega) ⟨k+1,_,rfl,by omega,rfl,rfl,rfl,rfl,rfl,rfl,rfl,rfl,rfl,rfl,rfl,g9,f9,λj M hj hM=>by
      by_cases e:j=k
      ·subst e;rw[HL.out] at hM;cases hM;rw[<- HB.out]
      ·exact e6.out j M (by omega) hM⟩
 ·obtain rfl:k=Ls.length:=by omega
  have x8:¬ (Ls.length:Int)<(Ls.length:Int):=by omega
  refine EL.sp D hb hs λT=>?_;go_wp2;refine⟨_,rfl,?_⟩;refine EL.tape (wq:=u) ?_ T;have k8:o=none:=HO.out.trans (q40 λL hL=>by
   obtain⟨j,hj⟩:=List.mem_iff_getElem?.1 hL;exact e6.out j L (qh0.1 hj).1 hj)
  subst k8;have hfd:fd=none:=h8.out.trans (a8.out.no HO.out.symm);subst hfd;clear e6 HO h8 a8;simp only[mN,mL,mE,oE,Option.getD_none,qh7];refine EL.seq D hb hs ?_;refine EL.region D hb hs ?_;simp only[qhk,qh1,qh7,qhj,qhd,qhl,qi0];refine EL.list D hb hs [0,1,2,3,4,5,6,7,8,9,10,11,12,13,14,15,16,17,18,19] [_,_,_,_,_,_,_,_,_,_,_,_,_,_,_,_,_,_,_,_] (rest:=[20,21,22]) rfl λT3=>?_;go_wp2;refine EL.tape (wq:=u) ?_ T3;refine EL.enter D hb hs (fk:=23) (args:=#[]) rfl rfl (λT=>by rw[qm7 (f:=23) rfl Tp.x23 (by kernel_rfl) rfl];walk_nrm) (zh 23 (by decide)) ?_;refine qg7 D hok r4 hin ⟨_,Tp.x10,qnC⟩ ?_ _ [ql 10] hb hs λv u hR=>?_
  ·obtain⟨cs,e,g,h0,l9⟩:=h0;exact⟨cs,e,g,blk (w:=wq.tp u.tape) n6.out (by simp) h0,l9⟩
  obtain⟨rfl,t7⟩:=hR;rw[qjf];walk_nrm;refine EL.list D hb hs [21,22] [_,_] (rest:=[]) rfl λT4=>?_;go_wp2;refine EL.tape (wq:=u) ?_ T4;refine EL.region_end D hb hs ?_;refine EL.retS D hb hs ?_;exact EL.last h9 rfl rfl qnC rfl rfl d9
end
end
section
open Go Go.RowKit Go.Co Go.Sim Go.Conc Go.ConcN Go.ChangeShapes Go.WideShapes
theorem Tryz.own:ownKnob Tryz.prog.godebug=none:=by kernel_rfl
theorem Tryz.laidOut:laidOutB qh3=true:=by kernel_rfl
theorem q74:Tryz.prog.globals.size=0:=by kernel_rfl
theorem q9v:(begin qh3 (λ_ _=>0) default).world.heap[0]?=some (.cells ((qkA Tryz.prog.types.size).map λt=>.int .u64 (Int.ofNat t)) 0 (0,0)):=by kernel_rfl
def qdz(w:qgt):Prop:=∃cs e f,w.heap[0]?=some (.cells cs e f)/\∀(i:Nat) v,cs[i]?=some v->∃k m,v=.int k m
theorem qfA{w:qgt}(h:w.ShapedOpen qh3):qdz w:=by
 obtain⟨o,o0,h1,h2,h3⟩:=h.2 0 (by rw[q74];exact qgw _) (qgu.1 q9v).1;rw[q9v] at h2;cases h2;rw[q74,if_neg (by decide)] at h3;subst h3;refine⟨_,_,_,h1,λi v hv=>?_⟩;rw[qmE] at hv;cases hi:(qkA Tryz.prog.types.size)[i]? with
 | none=>rw[hi] at hv;cases hv
 | some x=>rw[hi] at hv;cases hv;exact⟨_,_,rfl⟩
theorem qfq:@Two (JS Ya qh3 ls λ_=>False) Ya qh3 :=
 @Two.mk (JS Ya qh3 ls λ_=>False) _ _ (qe2 _) ⟨⟨JS Ya Ya ls λ_=>False⟩,up _,qe1 _⟩ hrf q9s
def qc8(f:qi8):Prop :=
 ∀ [J:JunkSet] {Post:qgx->qgt->Prop} {W:qgt},Two Ya qh3->JunkSet.okf 137->(∀i,¬ JunkSet.jk i)->∀{base:Option qi2} {len cap:Nat} {wq:qgt},(len:Int)<=9223372036854775807 ->
  (0<len->∃lb lo,base=some ⟨lb,lo,none⟩/\∀i,i<len->∃x,wq.cell? ⟨lb,lo+i,none⟩=some (.int .i64 x))->qW wq 0 ->
  (∀w,(∀j,j<W.heap.size->w.heap[j]?=W.heap[j]?)->w.os=W.os->w.output=W.output->W.heap.size<=w.heap.size->Post (.bool true) w) ->
  EL Ya qh3 f Post W (G (qhy Ya f #[.slice base len cap] .normal) [ql f]) wq
theorem qaH{f:qi8}(hf:f≠85)(b7:lst.contains f=true)(b6:qc8 f){Post:qgx->qgt->Prop}{W:qgt}{a0:Option qi2}{len cap:Nat}(hsp:∀a,a0=some a->a.spot=none/\∃cs e g,W.heap[a.block]?=some (.cells cs e g))(hl:(len:Int)<=9223372036854775807)(hr:0<len->∃lb lo,a0=some ⟨lb,lo,none⟩/\∀i,i<len->∃x,W.cell? ⟨lb,lo+i,none⟩=some (.int .i64 x))(h0:qW W 0)(a7:∀w,(∀j,j<W.heap.size->w.heap[j]?=W.heap[j]?)->w.os=W.os->w.output=W.output->W.heap.size<=w.heap.size->Post (.bool true) w) :Go.Co.Ends qh3 Post (solo (G (qhy qh3 f #[.slice a0 len cap] .normal) []) W) #[]:=by
 letI:JunkSet:=JS Ya qh3 ls λ_=>False
 obtain⟨b0,e0,g0,a8,b9⟩:=h0;have c3:0<W.heap.size:=(qgu.1 a8).1
 let kn:Nat->Bool:=λi=>i == 0 || (match a0 with | some a=>i == a.block | none=>false)
 have b8:∀i,kn i=true->i<W.heap.size->∃cs e g,W.heap[i]?=some (.cells cs e g):=by
  intro i hi _;simp only[kn,qju,beq_iff_eq] at hi;rcases hi with rfl | hi
  ·exact⟨_,_,_,a8⟩
  ·cases a0 with
   | none=>cases hi
   | some a=>
    have:i=a.block:=by simpa using hi
    rw[this];exact(hsp a rfl).2
 refine EL.begin (kn:=kn) (aq:=#[.slice a0 len cap]) qfq b7 (zh f hf) (λi h=>h) (by rw[q74];exact c3) (λi hi=>?_) b8 ⟨rfl,λi x y hx hy=>?_⟩ ?_
 ·rw[q74] at hi;obtain rfl:i=0:=by omega
  rfl
 ·rw[hx] at hy;cases hy;obtain rfl:x=.slice a0 len cap:=by
   rcases i with _ | i
   ·simpa using hx.symm
   ·simp at hx
  cases a0 with
  | none=>exact .sliceNil _ _
  | some a=>
   obtain⟨a9,cs,e,g,a6⟩:=hsp a rfl;obtain⟨b,o,sp⟩:=a;dsimp only at a9 a6;subst a9;exact .slice _ _ _ _ (xx.2 ⟨(qgu.1 a6).1,by simp[kn],rfl⟩)
 ·refine b6 qfq (by show lst.contains 137=true;rfl) (λi h=>h) hl (λhp=>?_) ⟨_,_,_,vH (by rfl) a8,λi v hv=>?_⟩ a7;rotate_left
  ·have hsz:i<b0.size:=by have:=(qgu.1 hv).1;simpa[xD] using this
   obtain⟨k,m,e⟩:=b9 i _ (qhg hsz);rw[q0r _ _ (show b0[i]?=some (.int k m) by rw[<- e];exact qhg hsz)] at hv;cases hv;exact⟨k,m,rfl⟩
  obtain⟨lb,lo,rfl,h⟩:=hr hp;refine⟨lb,lo,rfl,λi hi=>?_⟩;obtain⟨x,hx⟩:=h i hi;obtain⟨-,cs,e,g,a6⟩:=hsp _ rfl;refine⟨x,?_⟩;have hc:cs[lo+i]?=some (.int .i64 x):=by simpa[qhu,a6] using hx
  have:=vH (kn:=kn) (by simp[kn]) a6;simp only[qhu,this];exact q0r _ _ hc
end
end Go.Proofs.YtidgnkmjgioapaaGreat
