/-
  Part 6 of the proof. gladstonelaw04.PileNumbered answers true for every list of numbers, and leaves its argument as it was. No conditions.
-/
import Derived.Test.YtidgnkmjgioapaaGreatJ2
import Derived.Test.YtidgnkmjgioapaaGreatRows
import Derived.Conc.LeavingOf
import Derived.Conc.HoldsTime
import Derived.ChangeSame
import Derived.ChangeVars
import Derived.JoinedOf
import Derived.RowKit
import Derived.RowKitTokens
import Derived.LaidHandle
import Derived.ProofKit
set_option maxRecDepth 100000
set_option maxHeartbeats 8000000
set_option linter.all false
open Array renaming getElem?_eq_getElem->Ml,getElem?_eq_some_iff->Lz,getElem?_map->Sk,getElem?_setIfInBounds_ne->ML,range->PU,replicate_succ->MF,replicate_zero->MG
open Bool renaming or_eq_true->OH,false->LH,true->LG
open Classical renaming byContradiction->MX,choose->ND,choose_spec->Nk
open Go renaming Addr->MN,FuncId->Nh,Value->LA,World->Lt,heap_alloc_new->LS,info_parts->Pd,maxLen->Qe
open Go.Conc renaming base->Mo,run_call_body->RZ
open Go.Frame renaming enter->MO,finish_at->Ow
open Go.Lib renaming hid->Lu
open Go.Proofs.Tryz renaming f15->SJ,func15->Vd,prog->Ma
open Go.Value renaming int->Mp,oneCell'->OV
open Go.World renaming cell?->Mz,grownBy_alloc->Lr,news_of_block->Of,ownsRow_nil->OF
open Go.World.grownBy renaming andThen->UJ,refl->Mf
open Int renaming eq_ofNat_of_zero_le->Qb,toNat_natCast->Pe
open List renaming cons_append->Mk,drop_succ_cons->MQ,drop_zero->Nu,ext_getElem?->QE,forall_mem_cons->NW,getElem?_eq_getElem->LO,getElem?_eq_some_iff->Md,getElem?_map->NO,getElem?_set_ne->PZ,getElem?_set_self->Pn,getElem_mem->Qo,length_cons->LX,length_map->On,length_nil->Mj,length_pos_iff->Pr,length_set->OW,map_append->NJ,map_congr_left->RX,map_cons->PS,map_map->We,map_nil->Ra,mem_cons->MK,mem_filter->Oa,mem_iff_getElem?->Qv,mem_map->Nt,mem_of_getElem?->Mh,nil_append->Mu,pairwise_iff_getElem->PN,pairwise_map->Qc,perm_ext_iff_of_nodup->RJ,push_toArray->MZ,range->Mr,set_set->Wf,size_toArray->Mt,take_add_one->Np,take_length->NH
open List.Pairwise renaming and_mem->PP
open List.range renaming loop->MY
open Nat renaming le_antisymm->WM,le_of_eq->Py,le_refl->LC,le_trans->LN,reduceAdd->Ms,reduceSub->NA,zero_add->Mn,zero_le->Mw
open Option renaming getD_some->LQ,map_some->Ng,none->Lw,some->Lq
open Option.some renaming injEq->MM
open _root_ renaming Array->LM,Bool->MC,False->PC,Int->LJ,List->Lx,Nat->Ly,Option->LU
namespace Go.Proofs.YtidgnkmjgioapaaGreat
section
open Go.RowKit
structure Emb(ps qs:Lx Par)(r:Ly->Ly):Prop where
 lt:∀i,i<ps.length->r i<qs.length
 inj:∀i j,i<ps.length->j<ps.length->r i=r j->i=j
 at':∀i,i<ps.length->qs[r i]?=ps[i]?
def reL(r:Ly->Ly)(l:Lx LJ):Lx LJ:=l.map λx=>((r x.toNat:Ly):LJ)
def InR(n:Ly)(l:Lx LJ):Prop:=∀x∈l,0<=x/\x<n
def uB{b a:Lx Par}{r:Ly->Ly}(h:Emb b a r){l:Lx LJ}(e:InR b.length l):InR a.length (reL r l):=λx d=>by
 obtain⟨y,c,rfl⟩:=Nt.1 d;have f:=e y c;have:=h.lt y.toNat (by omega);omega
def uA{d g:Lx Par}{r:Ly->Ly}(h:Emb d g r){l:Lx LJ}(f:InR d.length l)(j:l.Nodup):(reL r l).Nodup:=by
 refine Qc.2 ((PP.1 j).imp λ{a b} c e=>?_);obtain⟨n,k,i⟩:=c;have p:=f a n;have o:=f b k;have:=h.inj a.toNat b.toNat (by omega) (by omega) (by omega);omega
def Emb.tall{a b:Lx Par}{r:Ly->Ly}(h:Emb a b r){l:Lx LJ}(d:InR a.length l):aV b (reL r l)=aV a l:=by
 unfold aV reL;rw[We];refine congrArg _ (RX λx c=>?_);have e:=d x c;show dQ b ((r x.toNat:Ly):LJ)=dQ a x;unfold dQ;rw[Pe,h.at' x.toNat (by omega)]
def Emb.pre{a b:Lx Par}{r:Ly->Ly}(h:Emb a b r)(f:Par->LJ){i:Ly}(c:i<a.length):pre f b b.length (r i)=pre f a a.length i:=by
 unfold Go.Proofs.YtidgnkmjgioapaaGreat.pre;rw[if_pos c,if_pos (h.lt i c),h.at' i c]
def Emb.load{b a:Lx Par}{r:Ly->Ly}(h:Emb b a r)(f:Par->LJ){l:Lx LJ}(d:InR b.length l)(i:Ly):loadAt (Go.Proofs.YtidgnkmjgioapaaGreat.pre f a a.length) (reL r l) i=loadAt (Go.Proofs.YtidgnkmjgioapaaGreat.pre f b b.length) l i:=by
 unfold loadAt reL;rw[<- List.map_drop,We];refine congrArg tot (RX λx c=>?_);have e:=d x (List.mem_of_mem_drop c);show Go.Proofs.YtidgnkmjgioapaaGreat.pre f a a.length ((r x.toNat:Ly):LJ).toNat=_;rw[Pe,h.pre f (by omega)]
def Emb.stands{a b:Lx Par}{r:Ly->Ly}(h:Emb a b r)(f:Par->LJ){l:Lx LJ}(d:InR a.length l):aL b (Go.Proofs.YtidgnkmjgioapaaGreat.pre f b b.length) (reL r l)=aL a (Go.Proofs.YtidgnkmjgioapaaGreat.pre f a a.length) l:=by
 rw[Bool.eq_iff_iff,lT,lT,show(reL r l).length=l.length from On ..];refine forall_congr' λk=>forall_congr' λc=>?_;have e:(reL r l)[k]?.getD 0=((r (l[k]?.getD 0).toNat:Ly):LJ):=by
  unfold reL;rw[NO,LO c];rfl
 have g:=d l[k] (Qo c);unfold uG;rw[e,h.load f d,Pe,LO c,LQ,h.at' _ (by omega)]
def Emb.fine{b c:Lx Par}{r:Ly->Ly}(h:Emb b c r){a:LJ}{l:Lx LJ}(d:InR b.length l):aY c a (reL r l)=aY b a l:=by
 unfold aY;rw[h.tall d,h.stands Par.mx d]
def Emb.standsV{a b:Lx Par}{r:Ly->Ly}(h:Emb a b r){l:Lx LJ}(c:InR a.length l):Go.Proofs.YtidgnkmjgioapaaGreat.standsV b (reL r l)=Go.Proofs.YtidgnkmjgioapaaGreat.standsV a l:=by
 unfold Go.Proofs.YtidgnkmjgioapaaGreat.standsV;rw[h.stands Par.mx c,h.stands Par.mn c]
def Fj{a:Lx Par}{lim:LJ}(c:a.length<=5):dG a lim a.length=[]\/(dG a lim a.length).Nodup/\InR a.length (dG a lim a.length)/\aY a lim (dG a lim a.length)=LG:=by
 rcases(vj c a.length (LC _)).1 with e | ⟨m,q,k,h,g,n⟩
 ·exact .inl e
 ·right;obtain⟨l,-,-⟩:=mT c k h;rw[l] at g;have⟨c,j⟩:=Oa.1 g;have d:=mg _ _ _ h;have b:=(cD (bE a.length)).sublist d;have f:=(cE b).1 c;exact⟨f.nodup_iff.2 b,λx i=>dM (d.subset (f.subset i)),j⟩
def Fl{a:Lx Par}{lim:LJ}(i:a.length<=5){s:Lx LJ}(g:s.Nodup)(f:InR a.length s)(n:aY a lim s=LG):s.length<=(dG a lim a.length).length:=by
 by_cases j:s=[]
 ·subst j;exact Mw _
 have⟨d,l⟩:=ri g;have b:=AE l λx k=>f x (d.subset k);have h:=fh a.length s g f;have c:=ml b;rw[d.length_eq] at c;obtain⟨o,-,-⟩:=mT i h c;refine(vj i a.length (LC _)).2 s.length _ (Pr.2 j) h c λe=>?_;rw[o] at e;have:s∈(bV (cI s.length s)).filter (aY a lim):=Oa.2 ⟨(cE ((cD (bE a.length)).sublist b)).2 d.symm,n⟩;rw[e] at this;cases this
def Emb.most{b a:Lx Par}{r:Ly->Ly}(h:Emb b a r){lim:LJ}(f:b.length<=5)(d:a.length<=5):(dG b lim b.length).length<=(dG a lim a.length).length:=by
 rcases Fj (lim:=lim) f with e | ⟨i,c,g⟩
 ·rw[e];exact Mw _
 ·have:=Fl (lim:=lim) d (uA h c i) (uB h c) (by rw[h.fine c];exact g)
  rwa [show(reL r _).length=_ from On ..] at this
def EX{S:Lx (Lx LJ)}{n:Ly}{R:Lx (Lx LJ)}(i:∀s∈R,s∈S)(k:∀s∈S,s≠[])(t:R.Pairwise λa b=>∀x∈a,x∉b)(q:∀x:Ly,x<n->∃s∈R,(x:LJ)∈s):∃j,j.length=R.length/\jl S n j:=by
 have d:=List.mergeSort_perm R λa b=>decide (cf a<=cf b);have f:=List.pairwise_mergeSort (le:=λa b:Lx LJ=>decide (cf a<=cf b)) (λa b c i k=>by simp at i k ⊢;omega) (λa b=>by simp;omega) R;generalize R.mergeSort (λa b=>decide (cf a<=cf b))=j at d f;have g:j.Pairwise λa b=>∀x∈a,x∉b:=(d.pairwise_iff λ{a b} h x o l=>h x l o).2 t;refine⟨j,d.length_eq,⟨λs f=>i s (d.subset f),?_,g⟩,λx o=>?_⟩
 ·refine(PP.1 (f.and g)).imp λ{a b} p=>?_;obtain⟨q,v,A,z⟩:=p;have B:=of_decide_eq_true A;have r:∀c:Lx LJ,c≠[]->cf c∈c:=λc u=>by
   cases c with
   | nil=>exact absurd rfl u
   | cons x c=>simp[cf]
  have y:=r a (k a (i a (d.subset q)));have w:=r b (k b (i b (d.subset v)));have:cf a≠cf b:=λe=>z _ y (by rw[e];exact w);omega
 ·have⟨s,f,h⟩:=q x o;exact⟨s,d.symm.subset f,h⟩
def Jh{g:Lx Par}{f:LJ}(h:YOk g f)(j:∀p∈g,p.tall<=f){R:Lx (Lx LJ)}(o:∀s∈R,s≠[]/\s.Nodup/\InR g.length s/\aY g f s=LG)(k:R.Pairwise λa b=>∀x∈a,x∉b)(n:∀x:Ly,x<g.length->∃s∈R,(x:LJ)∈s):(ic g f).length<=R.length:=by
 obtain⟨-,-,hm,-⟩:=uS h j;have⟨q,e,l⟩:=EX (S:=oD g f) (λs i=>by
  have⟨a,b,c,d⟩:=o s i;exact(fG h.len).2 ⟨⟨a,b,c⟩,d⟩) (λs i=>((fG h.len).1 i).1.1) k n
 rw[<- e];exact hm q l
def GT{f:Lx Par}{e:LJ}(h:YOk f e)(i:∀p∈f,p.tall<=e):(∀s∈ic f e,s≠[]/\s.Nodup/\InR f.length s/\aY f e s=LG)/\((ic f e).Pairwise λa b=>∀x∈a,x∉b)/\((ic f e).Pairwise λa b=>cf a<cf b)/\∀x:Ly,x<f.length->∃s∈ic f e,(x:LJ)∈s:=by
 obtain⟨-,g,-,-⟩:=uS h i;refine⟨λs j=>?_,g.good.dis,g.good.asc,g.all⟩;have⟨⟨a,b,c⟩,d⟩:=(fG h.len).1 (g.good.sub s j);exact⟨a,b,c,d⟩
def Gm{f k:Lx Par}{r:Ly->Ly}(h:Emb f k r){R:Lx (Lx LJ)}(j:∀s∈R,InR f.length s)(n:R.Pairwise λa b=>∀x∈a,x∉b):(R.map (reL r)).Pairwise λa b=>∀x∈a,x∉b:=by
 refine Qc.2 ((PP.1 n).imp λ{a b} c x l d=>?_);obtain⟨p,o,c⟩:=c;obtain⟨y,i,rfl⟩:=Nt.1 l;have⟨z,g,e⟩:=Nt.1 d;have u:=j a p y i;have t:=j b o z g;have:=h.inj z.toNat y.toNat (by omega) (by omega) (by omega);have q:z=y:=by omega
 subst q;exact c z i g
structure Rnm(ps qs:Lx Par)(r:Ly->Ly):Prop extends Emb ps qs r where
 len:qs.length=ps.length
 onto:∀y,y<qs.length->∃x,x<ps.length/\r x=y
def Rnm.few{g j:Lx Par}{r:Ly->Ly}(h:Rnm g j r){f:LJ}(l:YOk g f)(k:YOk j f)(w:∀p∈g,p.tall<=f)(q:∀p∈j,p.tall<=f):(ic j f).length<=(ic g f).length:=by
 obtain⟨u,A,-,z⟩:=GT l w;rw[show(ic g f).length=((ic g f).map (reL r)).length from(On ..).symm];refine Jh k q (λs i=>?_) (Gm h.toEmb (λs i=>(u s i).2.2.1) A) λy l=>?_
 ·obtain⟨t,o,rfl⟩:=Nt.1 i;have⟨a,b,c,d⟩:=u t o;exact⟨λe=>a (List.map_eq_nil_iff.1 e),uA h.toEmb c b,uB h.toEmb c,by rw[h.fine c];exact d⟩
 ·obtain⟨x,v,rfl⟩:=h.onto y l;have⟨s,i,n⟩:=z x v;exact⟨reL r s,Nt.2 ⟨s,i,rfl⟩,Nt.2 ⟨x,n,by simp⟩⟩
def Rnm.symm{k g:Lx Par}{r:Ly->Ly}(h:Rnm k g r):∃l,Rnm g k l:=by
 have b:∀y,∃x,y<g.length->x<k.length/\r x=y:=λy=>by
  by_cases d:y<g.length
  ·have⟨x,a⟩:=h.onto y d;exact⟨x,λ_=>a⟩
  ·exact⟨0,λh=>absurd h d⟩
 refine⟨λy=>ND (b y),⟨⟨λy d=>(Nk (b y) d).1,λi j o n e=>?_,λy d=>?_⟩,h.len.symm,λx c=>⟨r x,h.lt x c,?_⟩⟩⟩
 ·have a:=(Nk (b i) o).2;have p:=(Nk (b j) n).2;rw[<- a,<- p,e]
 ·have a:=Nk (b y) d;show k[ND (b y)]?=_;rw[<- h.at' _ a.1,a.2]
 ·have a:=Nk (b (r x)) (h.lt x c);exact h.inj _ _ a.1 c a.2
def Rnm.count{d f:Lx Par}{r:Ly->Ly}(h:Rnm d f r){v:LJ}:(bV (aJ d.length)).countP (aY d v)=(bV (aJ f.length)).countP (aY f v):=by
 have n:=cD (bE d.length);have s:∀l,l∈bV (aJ d.length)->InR d.length l:=λl t x j=>dM (((cE n).1 t).subset j);have H:(bV (aJ d.length)).Nodup:=(mU (bE d.length) (aJ d.length).length []).imp λh e=>by rw[e,dE] at h;omega
 have F:∀(l:Lx LJ),InR d.length l->l.Nodup->(∀x:Ly,x<d.length->(x:LJ)∈l)->reL r l∈bV (aJ f.length):=λl g o O=>by
  refine(cE (cD (bE _))).2 ((RJ (uA h.toEmb g o) (cD (bE _))).2 λy=>?_);rw[kF];constructor
  ·exact λp=>uB h.toEmb g y p
  ·intro p;have⟨x,j,e⟩:=h.onto y.toNat (by omega);exact Nt.2 ⟨x,O x j,by simp;omega⟩
 have P:((bV (aJ d.length)).map (reL r)).Perm (bV (aJ f.length)):=by
  have D:(bV (aJ f.length)).Nodup:=(mU (bE f.length) (aJ f.length).length []).imp λh e=>by rw[e,dE] at h;omega
  refine(RJ (Qc.2 ((PP.1 H).imp λ{a b} A e=>?_)) D).2 λq=>⟨λG=>?_,λG=>?_⟩
  ·obtain⟨N,M,z⟩:=A;refine z (QE λi=>?_);have u:(reL r a)[i]?=(reL r b)[i]?:=by rw[e]
   unfold reL at u;rw[NO,NO] at u;cases g:a[i]? with
   | none=>
    cases o:b[i]? with
    | none=>rfl
    | some y=>rw[g,o] at u;cases u
   | some x=>
    cases o:b[i]? with
    | none=>rw[g,o] at u;cases u
    | some y=>
     rw[g,o] at u;simp only[Ng,MM] at u;have j:=s a N x (Mh g);have p:=s b M y (Mh o);have:=h.inj x.toNat y.toNat (by omega) (by omega) (by omega);rw[show x=y by omega]
  ·obtain⟨l,t,rfl⟩:=Nt.1 G;have C:=(cE n).1 t;exact F l (s l t) (C.nodup_iff.2 n) λx j=>C.symm.subset (kF.2 (by omega))
  ·have⟨Q,R⟩:=h.symm;have B:=cD (bE f.length);have w:=(cE B).1 G;have k:InR f.length q:=λx j=>dM (w.subset j);have c:∀y:LJ,∃x:LJ,(0<=y/\y<f.length)->(0<=x/\x<d.length)/\((r x.toNat:Ly):LJ)=y:=λy=>by
    by_cases p:0<=y/\y<f.length
    ·have⟨x,g,o⟩:=h.onto y.toNat (by omega);exact⟨x,λ_=>⟨by omega,by simp;omega⟩⟩
    ·exact⟨0,λh=>absurd h p⟩
   have t:reL r (q.map λy=>ND (c y))=q:=by
    unfold reL;rw[We]
    conv=>rhs;rw[<- List.map_id q]
    exact RX λy p=>(Nk (c y) (k y p)).2
   refine Nt.2 ⟨q.map λy=>ND (c y),?_,t⟩;have L:InR d.length (q.map λy=>ND (c y)):=λx j=>by
    obtain⟨y,p,rfl⟩:=Nt.1 j;exact(Nk (c y) (k y p)).1
   have I:(q.map λy=>ND (c y)).Nodup:=by
    refine Qc.2 ((PP.1 (w.nodup_iff.2 B)).imp λ{a b} A e=>?_);obtain⟨N,M,z⟩:=A;have g:=(Nk (c a) (k a N)).2;have o:=(Nk (c b) (k b M)).2;exact z (by rw[<- g,<- o,e])
   refine(cE n).2 ((RJ I n).2 λx=>?_);rw[kF];constructor
   ·exact λj=>L x j
   ·intro j;have g:((r x.toNat:Ly):LJ)∈q:=w.symm.subset (kF.2 (by have:=h.lt x.toNat (by omega);omega));refine Nt.2 ⟨_,g,?_⟩;have⟨o,O⟩:=Nk (c ((r x.toNat:Ly):LJ)) (k _ g);have:=h.inj (ND (c ((r x.toNat:Ly):LJ))).toNat x.toNat (by omega) (by omega) (by omega);omega
 rw[<- P.countP_eq,List.countP_map];refine List.countP_congr λl t=>?_;show _↔aY f v (reL r l)=LG;rw[h.fine (s l t)]
end
section
open Go Go.RowKit
def ia(a:Lx Par)(o:Lx LJ):Ly->Lx Par
 | 0=>a
 | i+1=>match a[i]? with
  | some p=>(ia a o i).set (o[i]?.getD 0).toNat p
  | none=>ia a o i
def Bo{a:Lx Par}{o:Lx LJ}{i k:Ly}{p:Par}(b:a[i]?=Lq p)(c:o[i]?=Lq (k:LJ)):ia a o (i+1)=(ia a o i).set k p:=by
 show(match a[i]? with | some p=>(ia a o i).set (o[i]?.getD 0).toNat p | none=>ia a o i)=_;rw[b,c];rfl
def eE(a:Lx Par)(o:Lx LJ):∀i,(ia a o i).length=a.length
 | 0=>rfl
 | i+1=>by
  unfold ia;split
  ·rw[OW,eE a o i]
  ·exact eE a o i
def kT.at{n:Ly}{o:Lx LJ}(h:kT n o){i:Ly}(b:i<n):∃k:Ly,o[i]?=Lq (k:LJ)/\k<n:=by
 have a:i<o.length:=by rw[h.len];exact b
 have:=h.all _ (Qo a);exact⟨o[i].toNat,by rw[LO a,Int.toNat_of_nonneg this.1],by omega⟩
def kT.inj{n:Ly}{o:Lx LJ}(h:kT n o){i j:Ly}(k:i<n)(g:j<n)(e:(o[i]?.getD 0).toNat=(o[j]?.getD 0).toNat):i=j:=by
 have b:i<o.length:=by rw[h.len];exact k
 have a:j<o.length:=by rw[h.len];exact g
 rw[LO b,LO a] at e;have p:=h.all _ (Qo b);have l:=h.all _ (Qo a);simp only[LQ] at e;have f:o[i]=o[j]:=by omega
 have d:=PN.1 h.nd;rcases Nat.lt_trichotomy i j with c | rfl | c
 ·exact absurd f (d i j b a c)
 ·rfl
 ·exact absurd f.symm (d j i a b c)
def zZ{a:Lx Par}{o:Lx LJ}(b:kT a.length o):∀k,k<=a.length->∀i,i<k->(ia a o k)[(o[i]?.getD 0).toNat]?=a[i]?
 | 0,_,i,g=>by omega
 | k+1,j,i,g=>by
  obtain⟨p,d⟩:∃p,a[k]?=Lq p:=⟨_,LO (by omega)⟩;unfold ia;rw[d];simp only;by_cases e:i=k
  ·subst e;have⟨x,f,c⟩:=b.at (i:=i) (by omega);rw[Pn (by rw[eE,f];simpa using c),d]
  ·rw[PZ (λh=>e (b.inj (by omega) (by omega) h.symm))];exact zZ b k (by omega) i (by omega)
def qF{a:Lx Par}{o:Lx LJ}:∀{k:Ly} {p:Par},p∈ia a o k->p∈a
 | 0,p,h=>h
 | k+1,p,h=>by
  unfold ia at h;split at h
  ·rename_i q b
   rcases List.mem_or_eq_of_mem_set h with h | rfl
   ·exact qF h
   ·exact Mh b
  ·exact qF h
def kT.onto{n:Ly}{o:Lx LJ}(h:kT n o){y:Ly}(d:y<n):∃x,x<n/\(o[x]?.getD 0).toNat=y:=by
 have hm:(y:LJ)∈o:=MX λc=>by
  have:=fh n ((y:LJ)::o) (List.nodup_cons.2 ⟨c,h.nd⟩) λx a=>by
   rcases MK.1 a with rfl | a
   ·omega
   ·exact h.all x a
  rw[LX,h.len] at this;omega
 have⟨i,b,e⟩:=List.mem_iff_getElem.1 hm;exact⟨i,by rw[<- h.len];exact b,by rw[LO b,LQ,e];simp⟩
def uH(o:Lx LJ)(i:Ly):Ly:=(o[i]?.getD 0).toNat
def DS{a:Lx Par}{o:Lx LJ}(b:kT a.length o):Rnm a (ia a o a.length) (uH o) where
 lt i hi:=by
  have⟨k,d,c⟩:=b.at hi;rw[eE];unfold uH;rw[d];simpa using c
 inj _ _ hi hj e:=b.inj hi hj e
 at' i hi:=zZ b _ (LC _) i hi
 len:=eE _ _ _
 onto y hy:=by rw[eE] at hy;exact b.onto hy
structure Ln(ps qs:Lx Par)(lim:LJ)(l l':Lx LJ):Prop where
 yq:YOk qs lim
 pq:POk qs lim l'
 v:standsV qs l'=standsV ps l
 c1:bX ps lim=0
 c2:bX qs lim=0
 n:jK qs lim=jK ps lim
 m:(mX qs lim).length=(mX ps lim).length
 e:jc qs lim=jc ps lim
 e2:jc ps lim=0\/jc ps lim=11
 f:(rq qs lim).length=(rq ps lim).length
def Gu{c:Lx Par}{a:LJ}{l o:Lx LJ}(d:YOk c a)(r:POk c a l)(v:kT c.length o):Ln c (ia c o c.length) a l (reL (uH o) l):=by
 have f:=DS v;have b:YOk (ia c o c.length) a:=⟨by rw[eE];exact d.len,λp h=>d.each p (qF h),d.l1,d.l2⟩;generalize ia c o c.length=qs at f b;have⟨x,s⟩:=f.symm;have g:InR c.length l:=r.ok;have e:uO qs a=uO c a:=by
  rw[Bool.eq_iff_iff,iu,iu];constructor
  ·intro h p j;have⟨i,q⟩:=Qv.1 j;have n:=(Md.1 q).1;exact h p (Mh ((f.at' i n).t q))
  ·intro h p j;have⟨i,q⟩:=Qv.1 j;have n:=(Md.1 q).1;exact h p (Mh ((s.at' i n).t q))
 have w:jc qs a=jc c a:=by unfold jc;rw[if_pos d.chk,if_pos b.chk,e]
 refine⟨b,⟨uB f.toEmb g,uA f.toEmb g r.nd,by rw[f.tall g];exact r.tall,by unfold reL;rw[On];exact r.len⟩,f.standsV g,d.chk,b.chk,?_,?_,w,?_,?_⟩
 ·unfold jK;rw[if_pos d.chk,if_pos b.chk,<- rG c a d.len,<- rG qs a b.len,f.count]
 ·unfold mX;rw[if_pos d.chk,if_pos b.chk];exact WM (s.toEmb.most b.len d.len) (f.toEmb.most d.len b.len)
 ·unfold jc;rw[if_pos d.chk];split
  ·exact .inl rfl
  ·exact .inr rfl
 ·unfold rq;by_cases h:uO c a=LG
  ·rw[if_pos ⟨b.chk,by rw[e];exact h⟩,if_pos ⟨d.chk,h⟩];have u:uO qs a=LG:=by rw[e];exact h
   exact WM (f.few d b (iu.1 h) (iu.1 u)) (s.few b d (iu.1 u) (iu.1 h))
  ·rw[if_neg (λk=>h (by rw[<- e];exact k.2)),if_neg (λk=>h k.2)]
def DR{r:Ly->Ly}{l:Lx LJ}{i:Ly}{x:LJ}(h:l[i]?=Lq x):reL r (l.take (i+1))=reL r (l.take i)++[((r x.toNat:Ly):LJ)]:=by
 rw[Np,h];simp[reL]
def ai.one{f g:Ly}{w:Lt}{b:LU MN}{n c k:Ly}{l:Lx LJ}{x:LJ}(h:ai f g w (.slice b n c) l)(d:l[k]?=Lq x):∃B o,b=Lq ⟨B,o,Lw⟩/\w.cell? ⟨B,o+k,Lw⟩=Lq (.int .i64 x):=by
 have a:=(Md.1 d).1;obtain⟨u,t,i,-,j⟩:=h;injection i with e1 _ _;subst e1;obtain⟨B,o,s,r,rfl,-,-,q,p⟩:=j (by intro e;rw[e] at a;simp at a);have:=p k a;rw[d] at this;exact⟨B,o,rfl,aa q this⟩
def rV(N:Ly)(w:Lt)(a:LU MN)(n c:Ly)(b:Lx Par):Prop:=(0<n->∃B d,a=Lq ⟨B,0,Lw⟩/\N<=B/\w.heap[B]?=Lq (.cells d 28 (0,0)))/\aC 0 w.heap.size w (.slice a n c) b
def rV.k0{N n c:Ly}{w d:Lt}{b:LU MN}{f:Lx Par}(h:rV N w b n c f)(a:w.gb d Lw):rV N d b n c f :=
 ⟨λg=>by
  have⟨B,k,e,j,i⟩:=h.1 g;exact⟨B,k,e,j,bk a i⟩,(h.2.kept a).mono (LC _) a.size⟩
def rV.of_own{N d:Ly}{w:Lt}{v:LA}{a:Lx Par}(h:w.ownsRow d 28 4 v a.length (eQ a))(e:aC d w.heap.size w v a)(o:N<=d):∃b c,v=.slice b a.length c/\rV N w b a.length c a:=by
 obtain⟨b,c,rfl,-,-⟩:=e.cell;refine⟨b,c,rfl,λl=>?_,e.mono (Mw _) (LC _)⟩;rcases h.2 with⟨_,p⟩ | ⟨g,k,j,f,n,i,_⟩
 ·omega
 ·cases f;exact⟨g,_,rfl,by omega,i⟩
def YdZ(N X Y:Ly)(d:LU MN)(c:Ly)(f:LU MN)(e:Ly)(k:LU MN)(j:Ly)(i:LU MN)(h:Ly)(b:LJ)(a g:Lx Par)(l o:Lx LJ)(q:Lt):Prop :=
 q.heap[X]?=Lq (.cells #[.slice d a.length c,b] 24 (0,0))/\q.heap[Y]?=Lq (.cells #[.slice f a.length e,b] 24 (0,0))/\aC 0 N q (.slice d a.length c) a/\ai 0 N q (.slice k l.length j) l/\ai 0 N q (.slice i a.length h) o/\rV N q f a.length e g/\N<=q.heap.size
def YdZ.k0{N X Y c e p k:Ly}{d f r n:LU MN}{b:LJ}{j g:Lx Par}{l o:Lx LJ}{q i:Lt}(h:YdZ N X Y d c f e r p n k b j g l o q)(a:q.gb i Lw):YdZ N X Y d c f e r p n k b j g l o i:=by
 obtain⟨y,x,w,v,u,t,s⟩:=h;exact⟨bk a y,bk a x,w.kept a,v.kept a,u.kept a,t.k0 a,LN s a.size⟩
def YdZ.pp{N X Y c e k i:Ly}{d f n j:LU MN}{b:LJ}{a g:Lx Par}{l o:Lx LJ}{q:Lt}(h:YdZ N X Y d c f e n k j i b a g l o q):aC 0 q.heap.size q (.slice d a.length c) a:=h.2.2.1.mono (LC _) h.2.2.2.2.2.2
def YdZ.ii{N X Y d f b k:Ly}{e g c n:LU MN}{a:LJ}{j i:Lx Par}{l o:Lx LJ}{q:Lt}(h:YdZ N X Y e d g f c b n k a j i l o q):ai 0 q.heap.size q (.slice c l.length b) l:=h.2.2.2.1.mono (LC _) h.2.2.2.2.2.2
def YdZ.qq{N X Y f b k i:Ly}{g c n j:LU MN}{a:LJ}{e d:Lx Par}{l o:Lx LJ}{q:Lt}(h:YdZ N X Y g f c b n k j i a e d l o q):aC 0 q.heap.size q (.slice c e.length b) d:=h.2.2.2.2.2.1.2
def YdZ.c0{N X Y c e k i:Ly}{d f n j:LU MN}{a:LJ}{b g:Lx Par}{l o:Lx LJ}{q:Lt}(h:YdZ N X Y d c f e n k j i a b g l o q):q.cell? X=Lq (.slice d b.length c)/\q.cell? ⟨X,1,Lw⟩=Lq (.int .i64 a)/\q.cell? Y=Lq (.slice f b.length e)/\q.cell? ⟨Y,1,Lw⟩=Lq (.int .i64 a):=⟨aa h.1 rfl,aa h.1 rfl,aa h.2.1 rfl,aa h.2.1 rfl⟩
def put4(w:Lt)(B j:Ly)(p:Par):Lt:=(((w.setCell ⟨B,j,Lw⟩ (.int .i64 p.mn)).setCell ⟨B,j+1,Lw⟩ (.int .i64 p.mx)).setCell ⟨B,j+2,Lw⟩ (.int .i64 p.bears)).setCell ⟨B,j+3,Lw⟩ (.int .i64 p.tall)
def aC.put4{j s B c k n:Ly}{w:Lt}{b:Lx Par}{H:LM LA}(h:aC j s w (.slice (Lq B) n c) b)(G:b.length=n)(r:w.heap[B]?=Lq (.cells H 28 (0,0)))(e:k<n)(p:Par) :aC j s (put4 w B (k*4) p) (.slice (Lq B) n c) (b.set k p):=by
 subst G;obtain⟨q,F⟩:∃q,b[k]?=Lq q:=⟨_,LO e⟩;have y:=h.put r F (d:=0) (by decide) p.mn;have g:=ar (o:=0+(k*4+0)) (v:=.int .i64 p.mn) r;rw[show b.length=(b.set k (ib q 0 p.mn)).length from List.length_set.symm] at y;have D:=Pn (l:=b) (i:=k) (a:=ib q 0 p.mn) e;have x:=y.put g D (d:=1) (by decide) p.mx;have f:=ar (o:=0+(k*4+1)) (v:=.int .i64 p.mx) g;rw[Wf,show(b.set k (ib q 0 p.mn)).length=(b.set k (ib (ib q 0 p.mn) 1 p.mx)).length by rw[OW,OW]] at x;have C:=Pn (l:=b) (i:=k) (a:=ib (ib q 0 p.mn) 1 p.mx) e;have u:=x.put f C (d:=2) (by decide) p.bears;have z:=ar (o:=0+(k*4+2)) (v:=.int .i64 p.bears) f;rw[Wf,show(b.set k (ib (ib q 0 p.mn) 1 p.mx)).length=(b.set k (ib (ib (ib q 0 p.mn) 1 p.mx) 2 p.bears)).length by rw[OW,OW]] at u;have A:=Pn (l:=b) (i:=k) (a:=ib (ib (ib q 0 p.mn) 1 p.mx) 2 p.bears) e;have t:=u.put z A (d:=3) (by decide) p.tall;rw[Wf,OW,show ib (ib (ib (ib q 0 p.mn) 1 p.mx) 2 p.bears) 3 p.tall=p by simp[ib]] at t;unfold Go.Proofs.YtidgnkmjgioapaaGreat.put4;simpa using t
def qG(w:Lt)(B j:Ly)(p:Par):w.gb (put4 w B j p) (Lq B):=((an _ _ _ _).t (an _ _ _ _)).t ((an _ _ _ _).t (an _ _ _ _))
def DU{w:Lt}{B j:Ly}{p:Par}{c:LM LA}(b:w.heap[B]?=Lq (.cells c 28 (0,0))):∃a,(put4 w B j p).heap[B]?=Lq (.cells a 28 (0,0)):=⟨_,ar (ar (ar (ar b)))⟩
def YdZ.put{N X Y B t v y w k:Ly}{u z x:LU MN}{c:LJ}{f i:Lx Par}{l o:Lx LJ}{q:Lt}(h:YdZ N X Y u t (Lq ⟨B,0,Lw⟩) v z y x w c f i l o q)(G:i.length=f.length)(H:k<f.length)(p:Par):YdZ N X Y u t (Lq ⟨B,0,Lw⟩) v z y x w c f (i.set k p) l o (put4 q B (k*4) p):=by
 obtain⟨F,D,O,M,L,C,I⟩:=h;have⟨Q,P,e,g,r⟩:=C.1 (by omega);cases e;have a:=qG q B (k*4) p;have A:∀{Z:Ly} {cz:LM LA},q.heap[Z]?=Lq (.cells cz 24 (0,0))->Lq Z≠Lq B:=λb e=>by
  cases e;rw[r] at b;injection b with b;injection b with _ b _;exact absurd b (by decide)
 refine⟨blk a (A F) F,blk a (A D) D,O.kept a (by rintro R e;cases e;exact .inr g),M.kept a (by rintro R e;cases e;exact .inr g),L.kept a (by rintro R e;cases e;exact .inr g),⟨λ_=>?_,?_⟩,LN I a.size⟩
 ·have⟨s,n⟩:=DU (j:=k*4) (p:=p) r;exact⟨B,s,rfl,g,n⟩
 ·exact(C.2.put4 G r H p).mono (LC _) a.size
def DT{w:Lt}{B j:Ly}{l:LM LA}(f:w.heap[B]?=Lq (.cells l 28 (0,0)))(p:Par){a b c:LA}(r:w.cell? ⟨B,j+1,Lw⟩=Lq a)(q:w.cell? ⟨B,j+2,Lw⟩=Lq b)(n:w.cell? ⟨B,j+3,Lw⟩=Lq c) :(w.setCell ⟨B,j,Lw⟩ (.int .i64 p.mn)).cell? ⟨B,j+1,Lw⟩=Lq a/\((w.setCell ⟨B,j,Lw⟩ (.int .i64 p.mn)).setCell ⟨B,j+1,Lw⟩ (.int .i64 p.mx)).cell? ⟨B,j+2,Lw⟩=Lq b/\(((w.setCell ⟨B,j,Lw⟩ (.int .i64 p.mn)).setCell ⟨B,j+1,Lw⟩ (.int .i64 p.mx)).setCell ⟨B,j+2,Lw⟩ (.int .i64 p.bears)).cell? ⟨B,j+3,Lw⟩=Lq c /\(w.frozen? ⟨B,j,Lw⟩=LH/\(w.setCell ⟨B,j,Lw⟩ (.int .i64 p.mn)).frozen? ⟨B,j+1,Lw⟩=LH/\((w.setCell ⟨B,j,Lw⟩ (.int .i64 p.mn)).setCell ⟨B,j+1,Lw⟩ (.int .i64 p.mx)).frozen? ⟨B,j+2,Lw⟩=LH/\(((w.setCell ⟨B,j,Lw⟩ (.int .i64 p.mn)).setCell ⟨B,j+1,Lw⟩ (.int .i64 p.mx)).setCell ⟨B,j+2,Lw⟩ (.int .i64 p.bears)).frozen? ⟨B,j+3,Lw⟩=LH):=by
 have g:∀i v,w.cell? ⟨B,i,Lw⟩=Lq v->l[i]?=Lq v:=λi v h=>by simpa[Mz,f] using h
 have e:=ar (o:=j) (v:=.int .i64 p.mn) f;have d:=ar (o:=j+1) (v:=.int .i64 p.mx) e;have k:=ar (o:=j+2) (v:=.int .i64 p.bears) d;refine⟨aa e ?_,aa d ?_,aa k ?_,aB f,aB e,aB d,aB k⟩
 ·rw[ML (by omega)];exact g _ _ r
 ·rw[ML (by omega),ML (by omega)];exact g _ _ q
 ·rw[ML (by omega),ML (by omega),ML (by omega)];exact g _ _ n
end
section
open Go.RowKit

end
section
open Go Go.RowKit Go.Co Go.Sim Go.Conc Go.ConcN
def KF(v:Lt)(b:Ly)(c:LJ)(a:Lx Par)(e d:LA)(w:Lt):Prop :=
 ∃(Y N:Ly) (xb:LU MN) (xc:Ly) (ob:LU MN) (oc:Ly) (o:Lx LJ),e=.slice ob a.length oc/\d=.pointer (Lq Y)/\kT a.length o/\v.gb w (Lq b)/\v.heap.size<=Y/\v.heap.size<=N/\w.heap[Y]?=Lq (.cells #[.slice xb a.length xc,c] 24 (0,0))/\rV N w xb a.length xc a/\ai 0 N w (.slice ob a.length oc) o/\N<=w.heap.size
def Jm{v w:Lt}{b D N i n:Ly}{k p:LU MN}{f:LJ}{d:Lx Par}{o:Lx LJ}{a c:LA}(u:kT d.length o)(y:v.gb w (Lq b))(l:w.heap[D]?=Lq (.cells #[a,c] 24 (0,0)))(h:v.heap.size<=D)(z:v.heap.size<=N)(s:rV N w k d.length i d)(A:ai 0 N w (.slice p d.length n) o)(q:N<=w.heap.size) :KF v b f d (.slice p d.length n) (.pointer (Lq D)) ((w.setCell D (.slice k d.length i)).setCell ⟨D,1,Lw⟩ (.int .i64 f)):=by
 have g:w.gb ((w.setCell D (.slice k d.length i)).setCell ⟨D,1,Lw⟩ (.int .i64 f)) (Lq D):=(an _ _ _ _).t (an _ _ _ _);refine⟨D,N,k,i,p,n,o,rfl,rfl,u,xu y g (by rintro j e;cases e;exact h),h,z,ar (o:=1) (ar (o:=0) l),⟨λx=>?_,(s.2.kept_ty g l (by decide)).mono (LC _) g.size⟩,A.keptT g l (by decide),LN q g.size⟩;have⟨B,G,e,C,r⟩:=s.1 x;refine⟨B,G,e,C,blk g (λF=>?_) r⟩;cases F;rw[l] at r;cases r
section
variable[J:JunkSet]{Post:LA->Lt->Prop}{W:Lt}
def Li(D:Two Ya Ma)(F3:JunkSet.okf 137)(F7:∀i,¬ JunkSet.jk i)(F8:Ya.inits.idxOf? 15=Lw)(A3:Tryz.prog.inits.idxOf? 15=Lw){base:LU MN}{l9 C0:Ly}{wq:Lt}(hl:(l9:LJ)<=9223372036854775807)(hr:0<l9->∃lb lo,base=Lq ⟨lb,lo,Lw⟩/\∀i,i<l9->∃x,wq.cell? ⟨lb,lo+i,Lw⟩=Lq (.int .i64 x))(h0:bq wq 0)(q8:∀w,(∀j,j<W.heap.size->w.heap[j]?=W.heap[j]?)->w.os=W.os->w.output=W.output->W.heap.size<=w.heap.size->Post (.bool LG) w) :EL Ya Ma 15 Post W (G (MO Ya 15 #[.slice base l9 C0] .normal) [ax 15]) wq:=by
 have L:Ya.funcs[(Mo 15).fn]?=Tryz.prog.funcs[(Mo 15).fn]?:=bG 15 (by decide);have M:Bot 15 [ax 15]:=⟨[],rfl⟩;rw[BL (fn:=SJ) (c0:=Tryz.f15.body.getD .skip) Tp.x15 (by kernel_rfl)];simp only[SJ,LQ];walk_nrm;refine EL.sp D M L λT=>?_;go_wp2;refine EL.tape (wq:=wq) ?_ T;refine EL.sp D M L λT=>?_;have HR:=Lu hr;clear hr;go_wp2_with (go_at_call 24;refine(yZ base l9 C0 (wq.tp T) hl HR).mono ?_;rintro e w2 ⟨rfl,A8,w9⟩;have G2:=Lu A8;have T2:=Lu w9;clear A8 w9);obtain⟨b,r7⟩:∃b,b=(wq.tp T).heap.size:=⟨_,rfl⟩;rw[<- r7] at T2 ⊢;have q1:=Lu (show b=wq.heap.size from r7);refine bW (λu=>(wq.tp u.tape).gb u Lw/\aZ u b 0) ⟨tpg G2,T2⟩ λu1 y=>?_;obtain⟨g1,t1⟩:=y;clear G2 T2 r7 HR;refine EL.sp D M L λT=>?_;go_wp2_with (go_at_call 33;refine(yf b 0 5 (u1.tp T) t1 (by omega) (by omega)).mono ?_;rintro e w2 ⟨c,a,yv,w8,rfl,z6,q9⟩;have N2:=Lu z6;have P2:=Lu q9;have YD:=Lu w8;obtain⟨yb,Q,rfl,-,-⟩:=q9.cell;clear z6 q9 w8);obtain⟨X,hX⟩:∃X,X=w2.heap.size:=⟨_,rfl⟩;rw[<- hX];have m6:b<u1.heap.size:=t1.lt;have r6:=Lr w2 (.cells #[.slice yb c.length Q,a] 24) Lw;refine bW (λq=>(wq.tp q.tape).gb q Lw/\aZ q b 38/\q.heap[X]?=Lq (.cells #[.slice yb c.length Q,a] 24 (0,0))/\aC u1.heap.size q.heap.size q (.slice yb c.length Q) c) ⟨gb (zp g1 (tpg N2.1) (Py q1.symm)) (tpg (T:=w2.tape) r6),N2.2.alloc _,by rw[hX];exact LS _ _,(P2.alloc _).mono (LC _) r6.size⟩ λu2 y=>?_;obtain⟨g2,t2,x2,p2⟩:=y;have k8:=Lu (YD.yok (LC _));have b8:c.length<=5:=k8.out.len;clear r6 N2 P2 hX g1 t1 YD;refine EL.sp D M L λT=>?_;have c0:=aa (w:=u2.tp T) x2 (o:=0) rfl;have c1:=aa (w:=u2.tp T) x2 (o:=1) rfl;go_wp2_with (go_at_call 34;refine(zm b 38 u1.heap.size _ c a (u2.tp T) t2 (by omega) p2 m6 k8.len (by have:=k8.out.l1;omega) (by have:=k8.out.l2;omega) (λp hp=>by have:=k8.out.each p hp;omega)).mono ?_;rintro e w3 ⟨l,lv,x8,rfl,z2,l4⟩;have N3:=Lu z2;have I3:=Lu l4;have PK:=Lu x8;obtain⟨lb,lc,rfl,-,-⟩:=l4.cell;clear z2 l4 x8);have m7:b≠X:=λe=>by
  have h:=x2;obtain⟨_,_,_,_,_,_,F9,_⟩:=t2;rw[<- e,F9] at h;injection h with h;injection h with _ h _;exact absurd h (by decide)
 refine bW (λq=>(wq.tp q.tape).gb q Lw/\aZ q b 49/\q.heap[X]?=Lq (.cells #[.slice yb c.length Q,a] 24 (0,0))/\aC (b+1) q.heap.size q (.slice yb c.length Q) c/\ai (b+1) q.heap.size q (.slice lb l.length lc) l) ⟨zp g2 (tpg N3.1) (Py q1.symm),N3.2,blk (w:=u2.tp T) N3.1 (by simpa using m7.symm) x2,(aC.kept (w:=u2.tp T) p2 N3.1 (λR e=>by cases e;exact .inl m6)).mono m6 N3.1.size,I3.mono (aZ.lt (w:=u2) t2) (LC _)⟩ λu3 y=>?_;obtain⟨g3,t3,x3,p3,i3⟩:=y;clear N3 I3 g2 t2 x2 p2 c0 c1;refine EL.sp D M L λT=>?_;have S:=Lu (show ∀w',(u3.tp T).gb w' (Lq b)->w'.cell? X=Lq (.slice yb c.length Q)/\w'.cell? ⟨X,1,Lw⟩=Lq (.int .i64 a) from λw' h=>⟨aa (blk (w:=u3.tp T) h (by simpa using m7.symm) x3) rfl,aa (blk (w:=u3.tp T) h (by simpa using m7.symm) x3) rfl⟩);have n2:=Lu (show ∀W,(u3.tp T).gb W (Lq b)->lM 0 (u3.tp T).heap.size W (.slice yb c.length Q) c from λW h=>((aC.kept (w:=u3.tp T) p3 h (by rintro R e;cases e;left;omega)).mono (Mw _) (LC _)).g);have P:=Lu (show aZ (u3.tp T) b 49 from t3);have m6:b<(u3.tp T).heap.size:=P.out.lt;have L8:(c.length:LJ)<=5:=by omega
 generalize hv:u3.tp T=v at S n2 P m6 ⊢;have HV:=Lu hv;clear hv;refine CC [3,4,5] (λz w=>∃v6 v7,z[6]?=Lq v6/\z[7]?=Lq v7/\KF v b a c v6 v7 w) ?_ ?_
 ·skip;have s:=Lu (ak v (Lq b));replace P:=Lu (P.kept (ak v Lw));refine bn 8 (λw'=>w'.cell? X=Lq (.slice yb c.length Q)/\w'.cell? ⟨X,1,Lw⟩=Lq (.int .i64 a)) (by kernel_rfl) (by kernel_rfl) (S _ s) (λhHeld=>?_);simp only[LX,Mj,Ms,NA,Mn,MF,MG,MZ,Mu,Mk];generalize v.drew=W0 at hHeld s P ⊢;refine tk 0 (h:=tk 1 (h:=tk 2 (h:=tk 3 (h:=tk 5 (h:=?_)))));try go_frame
  refine rdy [4,7] ?_;refine cns 4 (λK hK=>?_) ?_
  ·skip;go_simp;go_at_call 72;refine(ow b 49 c.length _ P (by omega) (by omega)).mono ?_;rintro e w5 ⟨I,ov,a8,rfl,b8,h9⟩;obtain⟨ob,oc,eo,-,-⟩:=h9.cell;rw[a8.len] at eo;subst eo;obtain⟨N,hN⟩:∃N,N=w5.heap.size:=⟨_,rfl⟩;have e8:=Lu a8;have C:=Lu (hN ▸ h9.mono (Mw _) (LC _):ai 0 N w5 (.slice ob c.length oc) I);have l5:v.heap.size<=N:=by rw[hN];exact LN s.size b8.1.size
   have F:=Lu (Py hN);replace s:=Lu (s.t b8.1);clear b8 h9 a8 hN P;refine hK.out _ _ (S _ s) (λhHeld=>?_);try go_frame
   refine rdy [6,7] ?_;refine cns 6 (λK hK=>?_) ?_
   ·skip;go_simp;go_at_call 27;refine(jG 0 v.heap.size _ c a _ ⟨_,rfl,n2 _ s⟩ s.size (by omega)).mono ?_;rintro e w6 ⟨kv,rfl,H,d8,d9⟩;obtain⟨xb,xc,rfl,d7⟩:=rV.of_own d9 d8 F;have HR:=Lu d7;replace s:=Lu (s.t (H.but _));replace C:=Lu (C.kept H);replace F:=Lu (LN F H.size);clear H d8 d9 d7;refine hK.out _ _ (S _ s) (λhHeld=>?_);refine rdc 7 λK hK=>?_;go_simp;have HX:=Lu (uN s 24 #[.slice Lw 0 0,.int .i64 0]);have U:=Lu (C.kept (Lr w6 (.cells #[.slice Lw 0 0,.int .i64 0] 24) Lw));have V:=Lu (LN F (Lr w6 (.cells #[.slice Lw 0 0,.int .i64 0] 24) Lw).size);have r9:=Lu (HR.k0 (Lr w6 (.cells #[.slice Lw 0 0,.int .i64 0] 24) Lw));generalize w6.alloc (.cells #[.slice Lw 0 0,.int .i64 0] 24)=WN at HX U V r9 ⊢;generalize w6.heap.size=D at HX ⊢;clear s C F HR;have s:=Lu HX.1;have Z:=Lu HX.2.1;have l7:=Lu HX.2.2;have C:=Lu U;have F:=Lu V;have HR:=Lu r9;clear HX U V r9;refine hK.out _ _ (S _ s) (λhHeld=>?_);try go_frame
    refine⟨by kernel_rfl,?_⟩;simp only[MQ,Nu];clear hHeld;have t0:=aB Z (o:=0);have t1:=aB Z (o:=1);have c0:=aa Z (o:=0) rfl;have c1:=aa Z (o:=1) rfl;go_wp2;exact⟨_,rfl,rfl,NW.2 ⟨rfl,NW.2 ⟨rfl,NW.2 ⟨rfl,λ_ h=>(by cases h)⟩⟩⟩,_,_,rfl,rfl,Jm e8 s Z l7 l5 HR C F⟩
   refine cns 7 (λK hK=>?_) ?_
   ·skip;go_simp;have HX:=Lu (uN s 24 #[.slice Lw 0 0,.int .i64 0]);have U:=Lu (C.kept (Lr w5 (.cells #[.slice Lw 0 0,.int .i64 0] 24) Lw));have V:=Lu (LN F (Lr w5 (.cells #[.slice Lw 0 0,.int .i64 0] 24) Lw).size);generalize w5.alloc (.cells #[.slice Lw 0 0,.int .i64 0] 24)=WN at HX U V ⊢;generalize w5.heap.size=D at HX ⊢;clear s C F;have s:=Lu HX.1;have Z:=Lu HX.2.1;have l7:=Lu HX.2.2;have C:=Lu U;have F:=Lu V;clear HX U V;refine hK.out _ _ (S _ s) (λhHeld=>?_);refine rdc 6 λK hK=>?_;go_simp;go_at_call 27;refine(jG 0 v.heap.size _ c a _ ⟨_,rfl,n2 _ s⟩ s.size (by omega)).mono ?_;rintro e w6 ⟨kv,rfl,H,d8,d9⟩;obtain⟨xb,xc,rfl,d7⟩:=rV.of_own d9 d8 F;have HR:=Lu d7;replace Z:=Lu (bk H Z);replace s:=Lu (s.t (H.but _));replace C:=Lu (C.kept H);replace F:=Lu (LN F H.size);clear H d8 d9 d7;refine hK.out _ _ (S _ s) (λhHeld=>?_);try go_frame
    refine⟨by kernel_rfl,?_⟩;simp only[MQ,Nu];clear hHeld;have t0:=aB Z (o:=0);have t1:=aB Z (o:=1);have c0:=aa Z (o:=0) rfl;have c1:=aa Z (o:=1) rfl;go_wp2;exact⟨_,rfl,rfl,NW.2 ⟨rfl,NW.2 ⟨rfl,NW.2 ⟨rfl,λ_ h=>(by cases h)⟩⟩⟩,_,_,rfl,rfl,Jm e8 s Z l7 l5 HR C F⟩
   exact br.nil
  refine cns 7 (λK hK=>?_) ?_
  ·skip;go_simp;have HX:=Lu (uN s 24 #[.slice Lw 0 0,.int .i64 0]);have m8:=Lu (P.alloc (.cells #[.slice Lw 0 0,.int .i64 0] 24));generalize W0.alloc (.cells #[.slice Lw 0 0,.int .i64 0] 24)=WN at HX m8 ⊢;generalize W0.heap.size=D at HX ⊢;clear s P;have s:=Lu HX.1;have Z:=Lu HX.2.1;have l7:=Lu HX.2.2;have P:=Lu m8;clear HX m8;refine hK.out _ _ (S _ s) (λhHeld=>?_);refine rdc 4 λK hK=>?_;go_simp;go_at_call 72;refine(ow b 49 c.length _ P (by omega) (by omega)).mono ?_;rintro e w5 ⟨I,ov,a8,rfl,b8,h9⟩;obtain⟨ob,oc,eo,-,-⟩:=h9.cell;rw[a8.len] at eo;subst eo;obtain⟨N,hN⟩:∃N,N=w5.heap.size:=⟨_,rfl⟩;have e8:=Lu a8;have C:=Lu (hN ▸ h9.mono (Mw _) (LC _):ai 0 N w5 (.slice ob c.length oc) I);have l5:v.heap.size<=N:=by rw[hN];exact LN s.size b8.1.size
   have F:=Lu (Py hN);replace Z:=Lu (blk b8.1 (by have:=l7.out;simp;omega) Z);replace s:=Lu (s.t b8.1);clear b8 h9 a8 hN P;refine hK.out _ _ (S _ s) (λhHeld=>?_);refine rdc 6 λK hK=>?_;go_simp;go_at_call 27;refine(jG 0 v.heap.size _ c a _ ⟨_,rfl,n2 _ s⟩ s.size (by omega)).mono ?_;rintro e w6 ⟨kv,rfl,H,d8,d9⟩;obtain⟨xb,xc,rfl,d7⟩:=rV.of_own d9 d8 F;have HR:=Lu d7;replace Z:=Lu (bk H Z);replace s:=Lu (s.t (H.but _));replace C:=Lu (C.kept H);replace F:=Lu (LN F H.size);clear H d8 d9 d7;refine hK.out _ _ (S _ s) (λhHeld=>?_);try go_frame
   refine⟨by kernel_rfl,?_⟩;simp only[MQ,Nu];clear hHeld;have t0:=aB Z (o:=0);have t1:=aB Z (o:=1);have c0:=aa Z (o:=0) rfl;have c1:=aa Z (o:=1) rfl;go_wp2;exact⟨_,rfl,rfl,NW.2 ⟨rfl,NW.2 ⟨rfl,NW.2 ⟨rfl,λ_ h=>(by cases h)⟩⟩⟩,_,_,rfl,rfl,Jm e8 s Z l7 l5 HR C F⟩
  exact br.nil
 intro z wc hz n7 hcut;obtain⟨v6,v7,e6,e7,Y,N,xb,xc,ob,oc,I,rfl,rfl,a8,hg,E8,l5,hy,hr,k9,B3⟩:=hcut;have e3:z[3]?=Lq (.pointer (Lq b)):=n7 3 (by simp);have e4:z[4]?=Lq (.pointer (Lq X)):=n7 4 (by simp);have e5:z[5]?=Lq (.slice lb l.length lc):=n7 5 (by simp);have⟨t,ht,v8⟩:=Lk 171 z hz;clear hz n7;simp only[Mr,MY,PS,Ra,ht 3 _ e3,ht 4 _ e4,ht 5 _ e5,ht 6 _ e6,ht 7 _ e7] at v8;subst v8;clear ht e3 e4 e5 e6 e7;have F1:wq.heap.size<=b:=Py q1.symm;have m3:(u3.tp T).gb wc (Lq b):=by rw[HV];exact hg
 have n6:u3.heap.size<=N:=by have e:v.heap.size=u3.heap.size:=(by rw[<- HV];rfl);omega
 have F2:wq.heap.size<=N:=LN g3.size n6;have e8:=Lu a8;refine bW (λq=>(wq.tp q.tape).gb q Lw/\YdZ N X Y yb Q xb xc lb lc ob oc a c c l I q) ⟨zp g3 (tpg m3) F1,blk (w:=u3.tp T) m3 (by simpa using m7.symm) x3,hy,(aC.kept (w:=u3.tp T) p3 m3 (by rintro R e;cases e;left;omega)).mono (Mw _) n6,(ai.kept (w:=u3.tp T) i3 m3 (by rintro R e;cases e;left;omega)).mono (Mw _) n6,k9,hr,B3⟩ λu4 y=>?_;obtain⟨g4,f4⟩:=y;clear S n2 P HV a8 hg E8 l5 hy hr k9 B3 m3 n6 g3 t3 x3 p3 i3 m7 q1;refine EL.sp D M L λT=>?_;have G4:=Lu (show(wq.tp (u4.tp T).tape).gb (u4.tp T) Lw from⟨g4.os,rfl,g4.output,g4.size,g4.block⟩);have F4:=Lu (show YdZ N X Y yb Q xb xc lb lc ob oc a c c l I (u4.tp T) from f4);have Q0:=Lu g4.size;clear g4 f4;go_wp2;go_loopw [8] (λiv wr=>∃i:Ly,iv=.int .i64 i/\i<=c.length/\(wq.tp wr.tape).gb wr Lw/\YdZ N X Y yb Q xb xc lb lc ob oc a c (ia c I i) l I wr) (λiv _=>(c.length - intOf iv).toNat)
 case atStart=>exact⟨0,rfl,by omega,G4,F4⟩
 case round=>
  obtain⟨i,rfl,hi,hG,y⟩:=hrel;have⟨HG,HF⟩:=aS hG y;clear hG;by_cases z7:i<c.length
  ·have Q4:(i:LJ)<(c.length:LJ):=by omega
   obtain⟨B,Q8,rfl,hB,-⟩:=y.2.2.2.2.2.1.1 (by omega);obtain⟨p,hp⟩:∃p,c[i]?=Lq p:=⟨_,LO z7⟩;have⟨k,hk,r3⟩:=e8.out.at z7;have C4:=Lu (show ia c I (i+1)=(ia c I i).set k p from Bo hp hk);have F5:(0:LJ)<=(k:LJ)/\(k:LJ)<(c.length:LJ):=by omega
   have C3:=Lu (eE c I i);obtain⟨q0,x7⟩:∃q,(ia c I i)[k]?=Lq q:=⟨_,LO (by rw[eE];exact r3)⟩;obtain⟨YB,yo,rfl,y0,y1,y2,y3⟩:=aC.one y.2.2.1 hp;obtain⟨OB,oo,rfl,o0⟩:=ai.one y.2.2.2.2.1 hk;have c0:=aa y.1 (o:=0) rfl;have d0:=aa y.2.1 (o:=0) rfl;have l6:=Lu (y.k0 (ak wr Lw));have s2:=Lu (gb HG (tpg (T:=wr.tape) (ak wr Lw)));have s1:=Lu x7;generalize ia c I i=qs at l6 C4 C3 s1;clear y HF HG hp hk x7;go_upto_region 8 with(fail);refine bn 11 (λw'=>w'.cell? X=Lq (.slice (Lq ⟨YB,yo,Lw⟩) c.length Q)/\w'.cell? Y=Lq (.slice (Lq B) c.length xc)/\w'.cell? ⟨OB,oo+i,Lw⟩=Lq (.int .i64 (k:Ly))/\w'.cell? ⟨YB,yo+i*4,Lw⟩=Lq (.int .i64 p.mn)/\w'.cell? ⟨YB,yo+i*4+1,Lw⟩=Lq (.int .i64 p.mx)/\w'.cell? ⟨YB,yo+i*4+2,Lw⟩=Lq (.int .i64 p.bears)/\w'.cell? ⟨YB,yo+i*4+3,Lw⟩=Lq (.int .i64 p.tall)) (by kernel_rfl) (by kernel_rfl) ⟨c0,d0,o0,y0,y1,y2,y3⟩ (λhHeld=>?_);simp only[LX,Mj,Ms,NA,Mn,MF,MG,MZ,Mu,Mk];generalize wr.drew=W0 at hHeld l6 s2 ⊢;refine tk 0 (h:=tk 1 (h:=tk 2 (h:=tk 3 (h:=tk 4 (h:=tk 5 (h:=tk 6 (h:=tk 7 (h:=tk 8 (h:=tk 9 (h:=tk 10 (h:=?_)))))))))));try go_frame
   refine⟨by kernel_rfl,?_⟩;simp only[MQ,Nu];clear hHeld;have⟨B',Q9,e',G6,A9⟩:=l6.out.2.2.2.2.2.1.1 (by omega);cases e';have⟨B',o',e',x0,x1,x2,x3⟩:=aC.one l6.2.2.2.2.2.1.2 s1;cases e';simp only[Mn] at x0 x1 x2 x3;have⟨w1,w2,w3,f0,f1,f2,f3⟩:=DT (j:=k*4) A9 p x1 x2 x3;have HZ:=Lu (l6.put C3 r3 p);have H4:=Lu (zp s2 (tpg (T:=W0.tape) (qG W0 B (k*4) p)) (LN F2 G6));clear A9 l6 s2 s1 c0 d0 y0 y1 y2 y3 o0;go_wp2;go_roundw
   case rel=>exact⟨i+1,by simp,by omega,H4,by rw[C4];exact HZ⟩
   case measure=>simp[intOf];omega
  ·obtain rfl:i=c.length:=by omega
   have O:=Lu (Gu k8 PK e8);obtain⟨qs,x6⟩:∃qs,qs=ia c I c.length:=⟨_,rfl⟩;rw[<- x6] at O y;have C6:=Lu y;clear x6 y HF;go_wp2;refine bW (λq=>(wq.tp q.tape).gb q Lw/\YdZ N X Y yb Q xb xc lb lc ob oc a c qs l I q) ⟨HG,C6⟩ λu5 y=>?_;obtain⟨g5,f5⟩:=y;clear HG C6 G4 F4;refine EL.sp D M L λT=>?_;go_wp2;refine EL.tape (wq:=u5) ?_ T;refine EL.sp D M L λT=>?_;have⟨i0,r5,E7,E6,E5⟩:=Pd Tp.info3p;have C8:=Lu (show YdZ N X Y yb Q xb xc lb lc ob oc a c qs l I (u5.tp T) from f5);obtain⟨A,hA⟩:∃A,A=(u5.tp T).heap.size:=⟨_,rfl⟩;have HA:=Lu hA;have Q1:l.length<=5:=by have:=fh c.length l PK.nd PK.ok;omega
   clear hA f5;go_wp2;go_loopw [9,10] (λov kv wr=>∃j:Ly,kv=.int .i64 j/\j<=l.length/\(u5.tp T).gb wr Lw/\wr.ownsRow A 3 1 ov j ((reL (uH I) (l.take j)).map (Mp .i64))) (λ_ kv _=>(l.length - intOf kv).toNat)
   case atStart=>exact⟨0,rfl,by omega,Mf _ _,OF _ _ _ _⟩
   case round=>
    obtain⟨j,rfl,hj,hG,hO⟩:=hrel;have HG:=Lu hG;obtain⟨oa,a7,rfl,-⟩:=oh hO;have HO:=Lu hO;have m5:=C8.out.k0 hG;have Q7:A<=wr.heap.size:=by have:=HA.out;have:=hG.size;omega
    clear hO hG;by_cases F6:j<l.length
    ·have Q3:(j:LJ)<(l.length:LJ):=by omega
     obtain⟨x,hx⟩:∃x,l[j]?=Lq x:=⟨_,LO F6⟩;have E9:=PK.out.ok x (Mh hx);obtain⟨xn,rfl⟩:=Qb E9.1;have⟨k,hk,r3⟩:=e8.out.at (i:=xn) (by omega);have F5:(0:LJ)<=(k:LJ)/\(k:LJ)<(c.length:LJ):=by omega
     obtain⟨LB,lo,rfl,l0⟩:=ai.one m5.2.2.2.1 hx;obtain⟨OB,oo,rfl,o0⟩:=ai.one m5.2.2.2.2.1 hk;have H6:=Lu (show reL (uH I) (l.take (j+1))=reL (uH I) (l.take j)++[(k:LJ)] by rw[DR hx];unfold uH;rw[Pe,hk];simp);clear m5 hx hk;go_wp2_with (at_builtin;(refine wpList_append_own _ rfl _ _ 29 rfl A 3 i0 _ 1 8 Tp.und29' r5 E7 E6 E5 rfl (by decide) (.slice oa j a7) j _ rfl (HO.alloc _) ⟨wr.heap.size,0,Lw⟩ 1 1 [.int .i64 (k:Ly)] rfl rfl (Of (cs:=#[(k:Ly)]) (t:=3) (fr:=(0,0)) (LS wr _)) (by simp[OV]) (by unfold Qe;omega) (by omega) (by simp;omega) ?_);intro v5 w5 q3 m4 _;have HW:=Lu q3;have H7:=Lu m4;clear q3 m4);have G5:=UJ (row:=Lw) (HG.t (Lr wr (.cells #[(k:Ly)] 3) Lw)) H7 (λj e=>.inl (by have:=(HO.lt j e).1;have:=HA.out;omega));go_roundw
     case rel=>exact⟨j+1,by simp,by omega,G5,by rw[H6,NJ];exact HW⟩
     case measure=>simp[intOf];omega
    ·obtain rfl:j=l.length:=by omega
     have C5:=Lu (show(reL (uH I) l).length=l.length from On ..);have k9:=ai.own (NH (l:=l) ▸ HO) (by rw[C5];omega);obtain⟨l',z8⟩:∃l',l'=reL (uH I) l:=⟨_,rfl⟩;rw[<- z8] at k9 C5 O;have⟨C,C7⟩:=aS k9 m5;clear k9 z8 m5 C8 HO;go_wp2;refine bW (λq=>(wq.tp q.tape).gb q Lw/\YdZ N X Y yb Q xb xc lb lc ob oc a c qs l I q/\ai 0 q.heap.size q (.slice oa l.length a7) l') ⟨gb g5 (tpg HG),C7,C.mono (Mw _) (LC _)⟩ λu6 y=>?_;obtain⟨g6,f6,p6⟩:=y;clear HG C7 C g5 HA;refine EL.sp D M L λT=>?_;have⟨c0,c1,c2,c3⟩:=YdZ.c0 (q:=u6.tp T) f6;go_wp2_with (go_at_call 37;refine(nR 0 _ _ _ c a l _ (YdZ.pp (q:=u6.tp T) f6) (YdZ.ii (q:=u6.tp T) f6) (LC _) k8 PK).mono ?_;rintro e wn ⟨rfl,d⟩;have r:=Lu d;clear d);refine bW (λq=>(wq.tp q.tape).gb q Lw/\YdZ N X Y yb Q xb xc lb lc ob oc a c qs l I q/\ai 0 q.heap.size q (.slice oa l.length a7) l') ⟨gb g6 (tpg r),YdZ.k0 (q:=u6.tp T) f6 r,(ai.kept (w:=u6.tp T) p6 r (by simp)).mono (LC _) r.size⟩ λu7 y=>?_;obtain⟨g7,f7,p7⟩:=y;clear r c0 c1 c2 c3 g6 f6 p6;refine EL.sp D M L λT=>?_;have⟨c0,c1,c2,c3⟩:=YdZ.c0 (q:=u7.tp T) f7;go_wp2_with (go_at_call 37;refine(nR 0 _ _ _ qs a l' _ (YdZ.qq (q:=u7.tp T) f7) p7 (LC _) O.yq O.pq).mono ?_;rintro e wn ⟨rfl,d⟩;rw[O.v];have r:=Lu d;clear d);refine bW (λq=>(wq.tp q.tape).gb q Lw/\YdZ N X Y yb Q xb xc lb lc ob oc a c qs l I q/\ai 0 q.heap.size q (.slice oa l.length a7) l') ⟨gb g7 (tpg r),YdZ.k0 (q:=u7.tp T) f7 r,(ai.kept (w:=u7.tp T) p7 r (by simp)).mono (LC _) r.size⟩ λu8 y=>?_;obtain⟨g8,f8,p8⟩:=y;clear r c0 c1 c2 c3 g7 f7 p7;refine EL.sp D M L λT=>?_;have⟨c0,c1,c2,c3⟩:=YdZ.c0 (q:=u8.tp T) f8;go_wp2_with (go_at_call 59;refine(tS _ c a _ (YdZ.pp (q:=u8.tp T) f8)).mono ?_;rintro e wn ⟨rfl,d⟩;rw[O.c1];have r:=Lu d;clear d);refine bW (λq=>(wq.tp q.tape).gb q Lw/\YdZ N X Y yb Q xb xc lb lc ob oc a c qs l I q/\ai 0 q.heap.size q (.slice oa l.length a7) l') ⟨gb g8 (tpg r),YdZ.k0 (q:=u8.tp T) f8 r,(ai.kept (w:=u8.tp T) p8 r (by simp)).mono (LC _) r.size⟩ λu9 y=>?_;obtain⟨g9,f9,p9⟩:=y;clear r c0 c1 c2 c3 g8 f8 p8;refine EL.sp D M L λT=>?_;have⟨c0,c1,c2,c3⟩:=YdZ.c0 (q:=u9.tp T) f9;go_wp2_with (go_at_call 59;refine(tS _ qs a _ (YdZ.qq (q:=u9.tp T) f9)).mono ?_;rintro e wn ⟨rfl,d⟩;rw[O.c2,O.n];have r:=Lu d;clear d);refine bW (λq=>(wq.tp q.tape).gb q Lw/\YdZ N X Y yb Q xb xc lb lc ob oc a c qs l I q/\ai 0 q.heap.size q (.slice oa l.length a7) l') ⟨gb g9 (tpg r),YdZ.k0 (q:=u9.tp T) f9 r,(ai.kept (w:=u9.tp T) p9 r (by simp)).mono (LC _) r.size⟩ λu10 y=>?_;obtain⟨B7,f10,u0⟩:=y;clear r c0 c1 c2 c3 g9 f9 p9;refine EL.sp D M L λT=>?_;have⟨c0,c1,c2,c3⟩:=YdZ.c0 (q:=u10.tp T) f10;go_wp2_with (go_at_call 44;refine(wS _ c a _ (YdZ.pp (q:=u10.tp T) f10)).mono ?_;rintro e wn ⟨v1,rfl,d,A7⟩;obtain⟨b1,k1,rfl,-,-⟩:=A7.cell;clear A7;rw[O.c1];have r:=Lu d;clear d);refine bW (λq=>(wq.tp q.tape).gb q Lw/\YdZ N X Y yb Q xb xc lb lc ob oc a c qs l I q/\ai 0 q.heap.size q (.slice oa l.length a7) l') ⟨gb B7 (tpg r),YdZ.k0 (q:=u10.tp T) f10 r,(ai.kept (w:=u10.tp T) u0 r (by simp)).mono (LC _) r.size⟩ λu11 y=>?_;obtain⟨B6,p5,t8⟩:=y;clear r c0 c1 c2 c3 B7 f10 u0;refine EL.sp D M L λT=>?_;have⟨c0,c1,c2,c3⟩:=YdZ.c0 (q:=u11.tp T) p5;go_wp2_with (go_at_call 44;refine(wS _ qs a _ (YdZ.qq (q:=u11.tp T) p5)).mono ?_;rintro e wn ⟨v2,rfl,d,A6⟩;obtain⟨b2,k2,rfl,-,-⟩:=A6.cell;clear A6;rw[O.c2,O.m];have r:=Lu d;clear d);refine bW (λq=>(wq.tp q.tape).gb q Lw/\YdZ N X Y yb Q xb xc lb lc ob oc a c qs l I q/\ai 0 q.heap.size q (.slice oa l.length a7) l') ⟨gb B6 (tpg r),YdZ.k0 (q:=u11.tp T) p5 r,(ai.kept (w:=u11.tp T) t8 r (by simp)).mono (LC _) r.size⟩ λu12 y=>?_;obtain⟨B5,p4,t7⟩:=y;clear r c0 c1 c2 c3 B6 p5 t8;refine EL.sp D M L λT=>?_;have⟨c0,c1,c2,c3⟩:=YdZ.c0 (q:=u12.tp T) p4;go_wp2_with (go_at_call 63;refine(mA _ c a _ (YdZ.pp (q:=u12.tp T) p4)).mono ?_;rintro e wn ⟨v3,rfl,d,l4⟩;obtain⟨b3,k3,rfl,-,-⟩:=l4.cell;clear l4;have r:=Lu d;clear d);refine bW (λq=>(wq.tp q.tape).gb q Lw/\YdZ N X Y yb Q xb xc lb lc ob oc a c qs l I q/\ai 0 q.heap.size q (.slice oa l.length a7) l') ⟨gb B5 (tpg r),YdZ.k0 (q:=u12.tp T) p4 r,(ai.kept (w:=u12.tp T) t7 r (by simp)).mono (LC _) r.size⟩ λu13 y=>?_;obtain⟨B4,n9,t6⟩:=y;clear r c0 c1 c2 c3 B5 p4 t7;refine EL.sp D M L λT=>?_;have⟨c0,c1,c2,c3⟩:=YdZ.c0 (q:=u13.tp T) n9;go_wp2_with (go_at_call 63;refine(mA _ qs a _ (YdZ.qq (q:=u13.tp T) n9)).mono ?_;rintro e wn ⟨v4,rfl,d,A4⟩;obtain⟨b4,k4,rfl,-,-⟩:=A4.cell;clear A4;rw[O.e,O.f];have r:=Lu d;clear d);refine bW (λq=>(wq.tp q.tape).gb q Lw/\YdZ N X Y yb Q xb xc lb lc ob oc a c qs l I q/\ai 0 q.heap.size q (.slice oa l.length a7) l') ⟨gb B4 (tpg r),YdZ.k0 (q:=u13.tp T) n9 r,(ai.kept (w:=u13.tp T) t6 r (by simp)).mono (LC _) r.size⟩ λu14 y=>?_;obtain⟨G9,H0,E0⟩:=y;clear r c0 c1 c2 c3 B4 n9 t6;obtain⟨sp,x4⟩:∃sp,sp=standsV c l:=⟨_,rfl⟩;obtain⟨np,z1⟩:∃np,np=jK c a:=⟨_,rfl⟩;obtain⟨ke,A0⟩:∃ke,ke=jc c a:=⟨_,rfl⟩;rw[<- x4,<- z1,<- A0];generalize (mX c a).length=mp;generalize (rq c a).length=fp;clear x4 z1 A0 O H0 E0;refine EL.seq D M L ?_;refine EL.region D M L ?_;simp only[Mt,LX,Mj,Ms,Mn,Mr,MY];refine EL.list D M L [0,1,2,3,4,5,6,7,8,9] [_,_,_,_,_,_,_,_,_,_] (rest:=[10,11,12,13,14,15,16,17,18,19,20,21,22,23,24,25,26,27,28,29,30,31,32,33,34,35,36,37,38,39,40,41,42,43,44,45,46,47,48,49,50,51,52,53,54]) rfl λT=>?_;go_wp2;refine EL.tape (wq:=u14) ?_ T;refine EL.list D M L [10,11,12,13,14,15,16,17,18,19] [_,_,_,_,_,_,_,_,_,_] (rest:=[20,21,22,23,24,25,26,27,28,29,30,31,32,33,34,35,36,37,38,39,40,41,42,43,44,45,46,47,48,49,50,51,52,53,54]) rfl λT=>?_;go_wp2;refine EL.tape (wq:=u14) ?_ T;refine EL.list D M L [20,21,22,23,24,25,26,27,28,29] [_,_,_,_,_,_,_,_,_,_] (rest:=[30,31,32,33,34,35,36,37,38,39,40,41,42,43,44,45,46,47,48,49,50,51,52,53,54]) rfl λT=>?_;go_wp2;refine EL.tape (wq:=u14) ?_ T;refine EL.list D M L [30,31,32,33,34,35,36,37,38,39] [_,_,_,_,_,_,_,_,_,_] (rest:=[40,41,42,43,44,45,46,47,48,49,50,51,52,53,54]) rfl λT=>?_;go_wp2;refine EL.tape (wq:=u14) ?_ T;refine EL.list D M L [40,41,42,43,44,45,46,47,48,49] [_,_,_,_,_,_,_,_,_,_] (rest:=[50,51,52,53,54]) rfl λT=>?_;go_wp2;refine EL.tape (wq:=u14) ?_ T;refine EL.list D M L [50,51] [_,_] (rest:=[52,53,54]) rfl λT=>?_;go_wp2;refine EL.tape (wq:=u14) ?_ T;refine EL.enter D M L (fk:=23) (args:=#[]) rfl (by kernel_rfl) (λT=>by rw[RZ (f:=23) rfl Tp.x23 (by kernel_rfl) rfl];walk_nrm) (bG 23 (by decide)) ?_;refine Lh D F3 F7 F8 ⟨_,Tp.x15,Vd⟩ ?_ _ [ax 15] M L λv u hR=>?_
     ·obtain⟨cs,e,g,h0,r5⟩:=h0;exact⟨cs,e,g,blk (w:=wq.tp u14.tape) G9 (by simp) h0,r5⟩
     obtain⟨rfl,Q5⟩:=hR;rw[Ow];walk_nrm;refine EL.list D M L [53,54] [_,_] (rest:=[]) rfl λT4=>?_;go_wp2;refine EL.tape (wq:=u) ?_ T4;refine EL.region_end D M L ?_;refine EL.retS D M L ?_;exact EL.last A3 rfl rfl Vd rfl rfl q8
end
end
section
open Go Go.RowKit Go.Co Go.Sim Go.Conc Go.ConcN Go.ChangeShapes Go.WideShapes
def Tryz.own:ownKnob Tryz.prog.godebug=Lw:=by kernel_rfl
def Tryz.laidOut:laidOutB Ma=LG:=by kernel_rfl
def Ar:Tryz.prog.globals.size=0:=by kernel_rfl
def Dj:(begin Ma (λ_ _=>0) default).world.heap[0]?=Lq (.cells ((PU Tryz.prog.types.size).map λt=>.int .u64 (Int.ofNat t)) 0 (0,0)):=by kernel_rfl
def Hw(w:Lt):Prop:=∃a e f,w.heap[0]?=Lq (.cells a e f)/\∀(i:Ly) v,a[i]?=Lq v->∃k m,v=.int k m
def JX{w:Lt}(h:w.ShapedOpen Ma):Hw w:=by
 have⟨o,e,d,c,b⟩:=h.2 0 (by rw[Ar];exact LC _) (Lz.1 Dj).1;rw[Dj] at c;cases c;rw[Ar,if_neg (by decide)] at b;subst b;refine⟨_,_,_,d,λi v a=>?_⟩;rw[Sk] at a;cases hi:(PU Tryz.prog.types.size)[i]? with
 | none=>rw[hi] at a;cases a
 | some x=>rw[hi] at a;cases a;exact⟨_,_,rfl⟩
def JI:@Two (JS Ya Ma ls λ_=>PC) Ya Ma :=
 @Two.mk (JS Ya Ma ls λ_=>PC) _ _ (Ii _) ⟨⟨JS Ya Ya ls λ_=>PC⟩,up _,Ih _⟩ hrf Dg
def FG(f:Nh):Prop :=
 ∀ [J:JunkSet] {Post:LA->Lt->Prop} {W:Lt},Two Ya Ma->JunkSet.okf 137->(∀i,¬ JunkSet.jk i)->∀{base:LU MN} {len cap:Ly} {wq:Lt},(len:LJ)<=9223372036854775807 ->
  (0<len->∃b a,base=Lq ⟨b,a,Lw⟩/\∀i,i<len->∃x,wq.cell? ⟨b,a+i,Lw⟩=Lq (.int .i64 x))->bq wq 0 ->
  (∀w,(∀j,j<W.heap.size->w.heap[j]?=W.heap[j]?)->w.os=W.os->w.output=W.output->W.heap.size<=w.heap.size->Post (.bool LG) w) ->
  EL Ya Ma f Post W (G (MO Ya f #[.slice base len cap] .normal) [ax f]) wq
def Es{f:Nh}(P:f≠85)(D:lst.contains f=LG)(B:FG f){Post:LA->Lt->Prop}{W:Lt}{a0:LU MN}{len cap:Ly}(l:∀a,a0=Lq a->a.spot=Lw/\∃q e g,W.heap[a.block]?=Lq (.cells q e g))(O:(len:LJ)<=9223372036854775807)(M:0<len->∃A r,a0=Lq ⟨A,r,Lw⟩/\∀i,i<len->∃x,W.cell? ⟨A,r+i,Lw⟩=Lq (.int .i64 x))(R:bq W 0)(n:∀w,(∀j,j<W.heap.size->w.heap[j]?=W.heap[j]?)->w.os=W.os->w.output=W.output->W.heap.size<=w.heap.size->Post (.bool LG) w) :Go.Co.Ends Ma Post (solo (G (MO Ma f #[.slice a0 len cap] .normal) []) W) #[]:=by
 letI:JunkSet:=JS Ya Ma ls λ_=>PC
 obtain⟨z,U,T,p,H⟩:=R;have I:0<W.heap.size:=(Lz.1 p).1
 let kn:Ly->MC:=λi=>i == 0 || (match a0 with | some a=>i == a.block | none=>LH)
 have F:∀i,kn i=LG->i<W.heap.size->∃q e g,W.heap[i]?=Lq (.cells q e g):=by
  intro i d _;simp only[kn,OH,beq_iff_eq] at d;rcases d with rfl | d
  ·exact⟨_,_,_,p⟩
  ·cases a0 with
   | none=>cases d
   | some a=>
    have:i=a.block:=by simpa using d
    rw[this];exact(l a rfl).2
 refine EL.begin (kn:=kn) (aq:=#[.slice a0 len cap]) JI D (bG f P) (λi h=>h) (by rw[Ar];exact I) (λi d=>?_) F ⟨rfl,λi x y s L=>?_⟩ ?_
 ·rw[Ar] at d;obtain rfl:i=0:=by omega
  rfl
 ·rw[s] at L;cases L;obtain rfl:x=.slice a0 len cap:=by
   rcases i with _ | i
   ·simpa using s.symm
   ·simp at s
  cases a0 with
  | none=>exact .sliceNil _ _
  | some a=>
   have⟨u,q,e,g,c⟩:=l a rfl;obtain⟨b,o,S⟩:=a;dsimp only at u c;subst u;exact .slice _ _ _ _ (jN.2 ⟨(Lz.1 c).1,by simp[kn],rfl⟩)
 ·refine B JI (by show lst.contains 137=LG;rfl) (λi h=>h) O (λN=>?_) ⟨_,_,_,iV (by rfl) p,λi v C=>?_⟩ n;rotate_left
  ·have t:i<z.size:=by have:=(Lz.1 C).1;simpa[jU] using this
   have⟨k,m,e⟩:=H i _ (Ml t);rw[tE _ _ (show z[i]?=Lq (.int k m) by rw[<- e];exact Ml t)] at C;cases C;exact⟨k,m,rfl⟩
  obtain⟨A,r,rfl,h⟩:=M N;refine⟨A,r,rfl,λi d=>?_⟩;have⟨x,s⟩:=h i d;obtain⟨-,q,e,g,c⟩:=l _ rfl;refine⟨x,?_⟩;have Q:q[r+i]?=Lq (.int .i64 x):=by simpa[Mz,c] using s
  have:=iV (kn:=kn) (by simp[kn]) c;simp only[Mz,this];exact tE _ _ Q
end
end Go.Proofs.YtidgnkmjgioapaaGreat
