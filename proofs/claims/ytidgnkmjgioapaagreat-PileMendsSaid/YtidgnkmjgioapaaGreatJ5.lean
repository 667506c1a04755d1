/-
  Part 8 of the proof. gladstonelaw04.PileMends answers true for every yard, parcel, pile, number and list of numbers that the statement takes, and leaves its arguments as they were. No conditions.
-/
import Derived.Test.YtidgnkmjgioapaaGreatJ4
set_option maxRecDepth 100000
set_option maxHeartbeats 8000000
set_option linter.all false
open Array renaming getElem?_eq_getElem->Om,getElem?_eq_some_iff->Nz
open Bool renaming or_eq_true->QI,false->NC,true->NB
open Go renaming Addr->OX,DataW->jn,FuncId->Pl,MemPlace->UV,TypeId->NZ,Value->Ny,World->Nt,maxLen->Rh
open Go.DataW renaming trod->Uc
open Go.Frame renaming enter->OT
open Go.Proofs.Tryz renaming prog->NV,underlying22->VV,underlying29->Ta,underlying3->SI
open Go.World renaming cell?->OA,shape?->Wo
open List renaming getElem?_append_left->Ot,getElem?_eq_getElem->ND
open Nat renaming zero_le->OE
open Option renaming bind_eq_some_iff->Pg,none->Ns,some->Nq
open _root_ renaming Array->NJ,Bool->OI,False->RI,Int->NH,List->Nu,Nat->NA,Option->NO
namespace Go.Proofs.YtidgnkmjgioapaaGreat
section
open Go Go.RowKit
def Lm:mapsRowed NV=NB:=by kernel_rfl
def Jt:(Tryz.prog.stops == [])=NB:=by kernel_rfl
def Jv:(Tryz.prog.stopKnobs == [])=NB:=by kernel_rfl
def Lo:(Rows.pileLoadsRow.plainKeys == Tryz.prog.plainKeys)=NB:=by kernel_rfl
def Jw:Tryz.prog.stopsHeard=NB:=by kernel_rfl
def Ln:(Tryz.prog.make == Nq Rows.pileLoadsRow.make)=NB:=by kernel_rfl
end
section
open Go Go.RowKit Go.Co Go.Sim Go.Conc Go.ConcN Go.ChangeShapes Go.WideShapes
def u24:Tryz.prog.underlying 24=Nq (.struct #[{ name := "Parcels",type:=22,offset:=0,embedded:=NC,tag := "",pkgPath := "",byteOffset:=0 },{ name := "Limit",type:=3,offset:=1,embedded:=NC,tag := "",pkgPath := "",byteOffset:=24 }]):=by kernel_rfl
def sC:Tryz.prog.cellsOf 3=1:=by kernel_rfl
def JN:Tryz.prog.cellsOf 22=1:=by kernel_rfl
def JM:Tryz.prog.cellsOf 24=2:=by kernel_rfl
def Cs:Tryz.prog.cellsOf 26=2:=by kernel_rfl
def Cr:Tryz.prog.cellsOf 28=4:=by kernel_rfl
def Ni{Y:Type}:∀(l:Nu Y),l.length=4->∃a b c d,l=[a,b,c,d]
 | [a,b,c,d],_=>⟨a,b,c,d,rfl⟩
def lC{Y:Type}{P:NA->Y->Prop}:∀(n:NA),(∀i,i<n->∃x,P i x)->∃l:Nu Y,l.length=n/\∀i,i<n->∃x,l[i]?=Nq x/\P i x
 | 0,_=>⟨[],rfl,λi a=>absurd a (Nat.not_lt_zero i)⟩
 | n+1,h=>by
  have⟨l,b,g⟩:=lC n λi a=>h i (by omega);have⟨x,c⟩:=h n (by omega);refine⟨l++[x],by simp[b],λi a=>?_⟩;by_cases e:i=n
  ·subst e;exact⟨x,by rw[<- b];simp,c⟩
  ·have⟨y,f,d⟩:=g i (by omega);exact⟨y,by rw[Ot (by omega)];exact f,d⟩
section
variable{H:Type}{enc:NZ × Ny->H}{w:Nt}{base:NA}{spare:NA->OI}{held:OI}
def jh{a:NA}{b:Nu Ny}{x:jn H × Nu UV}(h:Uc enc NV w base spare held a 3 b=Nq x):∃n,b=[.int .i64 n]:=by
 obtain⟨n,c,-,-⟩:=DataW.trod_int SI h;exact⟨n,c⟩
def Dr{c:NA}{d:Nu Ny}{x:jn H × Nu UV}(h:Uc enc NV w base spare held c 26 d=Nq x):∃a b,d=[.int .i64 a,.int .i64 b]:=by
 obtain⟨p,o,n,-,e,g,f⟩:=trod_struct2 Tryz.underlying26 h;simp only[sC,Cs] at e g f
 match d,e with
 | [a,b],_=>
  have⟨l,j⟩:=jh g;have⟨k,i⟩:=jh f;simp at j i;exact⟨l,k,by rw[j,i]⟩
def pD{g:NA}{e:Nu Ny}{x:jn H × Nu UV}(h:Uc enc NV w base spare held g 28 e=Nq x):∃p:Par,e=[.int .i64 p.mn,.int .i64 p.mx,.int .i64 p.bears,.int .i64 p.tall]:=by
 obtain⟨t,n,_,rfl,k,f,i⟩:=DataW.trod_struct Tryz.underlying28 h
 match t,f with
 | [s,r,q],_=>
  have C:Uc enc NV w base spare held n 26 (e.take 2)=Nq s:=by rw[<- Cs];simpa using i 0 _ rfl
  have B:Uc enc NV w base spare held n 3 ((e.drop 2).take 1)=Nq r:=by rw[<- sC];simpa using i 1 _ rfl
  have A:Uc enc NV w base spare held n 3 ((e.drop 3).take 1)=Nq q:=by rw[<- sC];simpa using i 2 _ rfl
  rw[Cr] at k;clear i;obtain⟨a,b,c,d,rfl⟩:=Ni e k;have⟨z,y,j⟩:=Dr C;have⟨v,o⟩:=jh B;have⟨u,l⟩:=jh A;simp at j o l;exact⟨⟨z,y,v,u⟩,by rw[j.1,j.2,o,l]⟩
def vT{d:NA}{l:Nu Ny}{x:jn H × Nu UV}(h:Uc enc NV w base spare held d 22 l=Nq x) :l=[.slice Ns 0 0]\/∃a b c,l=[.slice (Nq a) b c]/\∀i,i<b->∃p:Par,w.cell? ((a.add (i*4)).add 0)=Nq (.int .i64 p.mn)/\w.cell? ((a.add (i*4)).add 1)=Nq (.int .i64 p.mx)/\w.cell? ((a.add (i*4)).add 2)=Nq (.int .i64 p.bears)/\w.cell? ((a.add (i*4)).add 3)=Nq (.int .i64 p.tall):=by
 rcases DataW.trod_slice VV h with⟨f,-⟩ | ⟨a,b,c,k,o,n,-,j,-,-,-,-,q,g,-,-⟩
 ·exact .inl f
 ·refine .inr ⟨a,b,c,j,λi s=>?_⟩;have f:=g i s;rw[ND (by omega),Cr,Pg] at f;obtain⟨u,t,r⟩:=f;obtain⟨p,rfl⟩:=pD r;obtain⟨-,-,e⟩:=World.cells?_some t;exact⟨p,e 0 (by omega),e 1 (by omega),e 2 (by omega),e 3 (by omega)⟩
end
def MP(f:Pl):Prop :=
 ∀ [J:JunkSet] {Post:Ny->Nt->Prop} {W:Nt},Two Ya NV->JunkSet.okf 137->(∀i,¬ JunkSet.jk i)->∀{yb a base:NO OX} {ny yc nl lc len cap:NA} {lim n:NH} {p:Par} {wq:Nt},(len:NH)<=9223372036854775807 ->
  (0<len->∃a c,base=Nq ⟨a,c,Ns⟩/\∀i,i<len->∃x,wq.cell? ⟨a,c+i,Ns⟩=Nq (.int .i64 x))->br wq 0 ->
  (ny<=1000->∃b:Nu Par,b.length=ny/\bH 0 wq.heap.size wq (.slice yb ny yc) b)->(nl<=1000->∃l:Nu NH,l.length=nl/\aS 0 wq.heap.size wq (.slice a nl lc) l/\nl<=lc) ->
  (∀w,(∀j,j<W.heap.size->w.heap[j]?=W.heap[j]?)->w.os=W.os->w.output=W.output->W.heap.size<=w.heap.size->Post (.bool NB) w) ->
  EL Ya NV f Post W (G (OT Ya f #[.agg #[.slice yb ny yc,lim],.agg #[p.mn,p.mx,p.bears,p.tall],.slice a nl lc,n,.slice base len cap] .normal) [ay f]) wq
def zB(a:NO OX)(i:NA):OI:=match a with
 | some a=>i == a.block
 | none=>NC
def iN(W:Nt)(a:NO OX):Prop:=∀x,a=Nq x->x.spot=Ns/\∃b e g,W.heap[x.block]?=Nq (.cells b e g)
def ji[JunkSet]{W:Nt}{kn:NA->OI}{B o:NA}{k:IntKind}{x:NH}(d:kn B=NB)(h:W.cell? ⟨B,o,Ns⟩=Nq (.int k x))(c:∃b e g,W.heap[B]?=Nq (.cells b e g)):(lh kn W).cell? ⟨B,o,Ns⟩=Nq (.int k x):=by
 obtain⟨b,e,g,a⟩:=c;have f:b[o]?=Nq (.int k x):=by simpa[OA,a] using h
 have:=jl (kn:=kn) d a;simp only[OA,this];exact uH _ _ f
def DL{f:Pl}(hf:f≠85)(b0:lst.contains f=NB)(a6:MP f){Post:Ny->Nt->Prop}{W:Nt}{O t Q:NO OX}{P yc C lc s cap:NA}{lim n:NH}{p:Par}(q:iN W O)(u:iN W t)(F:iN W Q)(hl:(s:NH)<=9223372036854775807)(hr:0<s->∃t Z,Q=Nq ⟨t,Z,Ns⟩/\∀i,i<s->∃x,W.cell? ⟨t,Z+i,Ns⟩=Nq (.int .i64 x))(h0:br W 0)(hY:0<P->∃B o,O=Nq ⟨B,o,Ns⟩/\∀i,i<P->∃p:Par,W.cell? ⟨B,o+i*4,Ns⟩=Nq (.int .i64 p.mn)/\W.cell? ⟨B,o+i*4+1,Ns⟩=Nq (.int .i64 p.mx)/\W.cell? ⟨B,o+i*4+2,Ns⟩=Nq (.int .i64 p.bears)/\W.cell? ⟨B,o+i*4+3,Ns⟩=Nq (.int .i64 p.tall))(hL:0<C->∃B o,t=Nq ⟨B,o,Ns⟩/\∀i,i<C->∃x,W.cell? ⟨B,o+i,Ns⟩=Nq (.int .i64 x))(V:C<=lc)(I:∀w,(∀j,j<W.heap.size->w.heap[j]?=W.heap[j]?)->w.os=W.os->w.output=W.output->W.heap.size<=w.heap.size->Post (.bool NB) w) :Go.Co.Ends NV Post (solo (G (OT NV f #[.agg #[.slice O P yc,lim],.agg #[p.mn,p.mx,p.bears,p.tall],.slice t C lc,.int .i64 n,.slice Q s cap] .normal) []) W) #[]:=by
 letI:JunkSet:=JS Ya NV ls λ_=>RI
 obtain⟨Y,e0,g0,M,b7⟩:=h0;have b8:0<W.heap.size:=(Nz.1 M).1
 let kn:NA->OI:=λi=>i == 0 || zB O i || zB t i || zB Q i
 have L:∀a x,iN W a->zB a x=NB->∃A e g,W.heap[x]?=Nq (.cells A e g):=by
  intro a x hs hb;cases a with
  | none=>cases hb
  | some a=>
   obtain rfl:x=a.block:=by simpa[zB] using hb
   exact(hs a rfl).2
 have b6:∀i,kn i=NB->i<W.heap.size->∃A e g,W.heap[i]?=Nq (.cells A e g):=by
  intro i r _;simp only[kn,QI,beq_iff_eq] at r;rcases r with((rfl | r) | r) | r
  ·exact⟨_,_,_,M⟩
  ·exact L _ _ q r
  ·exact L _ _ u r
  ·exact L _ _ F r
 have D:∀a n c,iN W a->(∀x,a=Nq x->kn x.block=NB)->VR (pY kn W.heap.size) (.slice a n c) (.slice a n c):=by
  intro a n c hs hk;cases a with
  | none=>exact .sliceNil _ _
  | some a=>
   have⟨U,A,e,g,T⟩:=hs a rfl;have X:=hk a rfl;obtain⟨b,o,sp⟩:=a;dsimp only at U T X;subst U;exact .slice _ _ _ _ (kj.2 ⟨(Nz.1 T).1,X,rfl⟩)
 have R:∀x,O=Nq x->kn x.block=NB:=λx e=>by simp[kn,zB,e]
 have kl:∀x,t=Nq x->kn x.block=NB:=λx e=>by simp[kn,zB,e]
 have ka:∀x,Q=Nq x->kn x.block=NB:=λx e=>by simp[kn,zB,e]
 refine EL.begin (kn:=kn) (aq:=#[.agg #[.slice O P yc,lim],.agg #[p.mn,p.mx,p.bears,p.tall],.slice t C lc,.int .i64 n,.slice Q s cap]) LW b0 (bG f hf) (λi h=>h) (by rw[Ch];exact b8) (λi r=>?_) b6 ⟨rfl,λi x y d z=>?_⟩ ?_
 ·rw[Ch] at r;obtain rfl:i=0:=by omega
  rfl
 ·rw[d] at z;cases z
  match i,d with
  | 0,d=>
   cases d;refine .agg rfl λi x y d z=>?_;rw[d] at z;cases z
   match i,d with
   | 0,d=>cases d;exact D _ _ _ q R
   | 1,d=>cases d;exact .int _ _
   | i+2,d=>simp at d
  | 1,d=>
   cases d;refine .agg rfl λi x y d z=>?_;rw[d] at z;cases z
   match i,d with
   | 0,d=>cases d;exact .int _ _
   | 1,d=>cases d;exact .int _ _
   | 2,d=>cases d;exact .int _ _
   | 3,d=>cases d;exact .int _ _
   | i+4,d=>simp at d
  | 2,d=>cases d;exact D _ _ _ u kl
  | 3,d=>cases d;exact .int _ _
  | 4,d=>cases d;exact D _ _ _ F ka
  | i+5,d=>simp at d
 ·refine a6 LW (by show lst.contains 137=NB;rfl) (λi h=>h) hl (λhp=>?_) ⟨_,_,_,jl (by rfl) M,λi v hv=>?_⟩ (λhn=>?_) (λhn=>?_) I
  ·obtain⟨t,Z,rfl,h⟩:=hr hp;refine⟨t,Z,rfl,λi r=>?_⟩;have⟨x,d⟩:=h i r;exact⟨x,ji (ka _ rfl) d (F _ rfl).2⟩
  ·have S:i<Y.size:=by have:=(Nz.1 hv).1;simpa[kz] using this
   have⟨k,m,e⟩:=b7 i _ (Om S);rw[uH _ _ (show Y[i]?=Nq (.int k m) by rw[<- e];exact Om S)] at hv;cases hv;exact⟨k,m,rfl⟩
  ·by_cases hz:P=0
   ·subst hz;exact⟨[],rfl,_,_,rfl,by decide,λh=>absurd rfl h⟩
   ·obtain⟨B,o,rfl,h⟩:=hY (by omega);obtain⟨ps,rfl,h2⟩:=lC P h;refine⟨ps,rfl,_,_,rfl,by omega,λ_=>⟨B,o,rfl,OE _,?_,?_,λi r=>?_⟩⟩
    ·obtain⟨-,A,e,g,N⟩:=q _ rfl;rw[dC];exact(Nz.1 N).1
    ·obtain⟨-,A,e,g,N⟩:=q _ rfl;rw[dC];exact(Nz.1 N).1
    ·have⟨p,e,c1,c2,c3,c4⟩:=h2 i r;exact⟨p,e,ji (R _ rfl) c1 (q _ rfl).2,ji (R _ rfl) c2 (q _ rfl).2,ji (R _ rfl) c3 (q _ rfl).2,ji (R _ rfl) c4 (q _ rfl).2⟩
  ·by_cases hz:C=0
   ·subst hz;exact⟨[],rfl,⟨_,_,rfl,by decide,λh=>absurd rfl h⟩,V⟩
   ·obtain⟨B,o,rfl,h⟩:=hL (by omega);obtain⟨l,rfl,h2⟩:=lC C h;refine⟨l,rfl,⟨_,_,rfl,by omega,λ_=>⟨B,o,rfl,OE _,?_,?_,λi r=>?_⟩⟩,V⟩
    ·obtain⟨-,A,e,g,N⟩:=u _ rfl;rw[dC];exact(Nz.1 N).1
    ·obtain⟨-,A,e,g,N⟩:=u _ rfl;rw[dC];exact(Nz.1 N).1
    ·have⟨x,e,c1⟩:=h2 i r;rw[e];exact ji (kl _ rfl) c1 (u _ rfl).2
def xU{W:Nt}{b:NA}{t e:NZ}{v:Ny}(k:Tryz.prog.underlying t=Nq (.slice e))(h:Cell.okWide NV W .any b t v):∃a d f,v=.slice a d f/\iN W a/\d<=f:=by
 obtain⟨a,d,f,rfl⟩:∃a d f,v=.slice a d f:=by
  simp only[Cell.okWide,k] at h;cases v<;>simp_all [Cell.ok]
 simp only[Cell.okWide,k,Cell.ok] at h;cases a with
 | none=>
  refine⟨_,_,_,rfl,(λx e=>by cases e),?_⟩;split at h<;>simp_all
 | some a=>
  simp only[World.has] at h;obtain⟨p,_,_,o,l,j,i,_⟩:=h;refine⟨_,_,_,rfl,λx e=>?_,p⟩;cases e;refine⟨o,?_⟩;unfold Wo at i;split at i
  ·rename_i c e g n
   exact⟨c,e,g,n⟩
  ·cases i
def pj{W:Nt}{b:NA}{t e:NZ}{v:Ny}(f:Tryz.prog.underlying t=Nq (.slice e))(h:Value.okWide NV W .any b t v):∃a c d,v=.slice a c d/\iN W a/\c<=d :=
 xU f (by simpa only[Value.okWide,f] using h)
def Iy{W:Nt}{b:NA}{v:Ny}(h:Value.okWide NV W .any b 24 v):∃a c d x,v=.agg #[.slice a c d,x]/\iN W a/\c<=d:=by
 simp only[Value.okWide,u24] at h;obtain⟨j,rfl,o,t,g,-,p⟩:=h;rw[show Tryz.prog.cellTypes Tryz.prog.depth 24=Nq [22,3] by kernel_rfl] at g;cases g;rw[JM] at o;obtain⟨l,e⟩:∃x,j[0]?=Nq x:=⟨_,Om (by omega)⟩;obtain⟨k,f⟩:∃x,j[1]?=Nq x:=⟨_,Om (by omega)⟩;have⟨u,n,q⟩:=p 0 l e;cases n;obtain⟨a,c,d,rfl,s,r⟩:=xU VV q;refine⟨a,c,d,k,?_,s,r⟩
 congr 1
 refine Array.ext_getElem? λi=>?_
 match i with
 | 0=>simpa using e
 | 1=>simpa using f
 | i+2=>rw[Array.getElem?_eq_none (by omega)];simp
section
variable{H:Type}{enc:NZ × Ny->H}{W:Nt}
def yQ{e:NA}{l:NO OX}{c k:NA}{x:jn H × Nu UV}(j:iN W l)(u:Uc enc NV W 0 (λ_=>NB) NB e 29 [.slice l c k]=Nq x) :(c:NH)<=9223372036854775807/\(0<c->∃g f,l=Nq ⟨g,f,Ns⟩/\∀i,i<c->∃x,W.cell? ⟨g,f+i,Ns⟩=Nq (.int .i64 x)):=by
 rcases open_ints Ta SI sC u with⟨b,s⟩ | ⟨a,n,p,q,b,_,A,hm,r,s,d,t⟩
 ·simp at b;obtain⟨rfl,rfl,rfl⟩:=b;exact⟨by omega,λh=>by omega⟩
 ·simp at b;obtain⟨rfl,rfl,rfl⟩:=b;simp only[if_true] at r;refine⟨by simp only[Rh] at hm;omega,λz=>?_⟩;obtain⟨o,-⟩:=j a rfl;obtain⟨g,f,y⟩:=a;dsimp only at o;subst o;refine⟨g,f,rfl,λi B=>⟨q.getD i 0,?_⟩⟩;have v:=d i (by omega)
  rwa [add_plain] at v
def EA{d:NA}{g:NO OX}{c f:NA}{v:Ny}{x:jn H × Nu UV}(e:iN W g)(z:Uc enc NV W 0 (λ_=>NB) NB d 24 [.slice g c f,v]=Nq x) :(∃n,v=.int .i64 n)/\(0<c->∃B o,g=Nq ⟨B,o,Ns⟩/\∀i,i<c->∃p:Par,W.cell? ⟨B,o+i*4,Ns⟩=Nq (.int .i64 p.mn)/\W.cell? ⟨B,o+i*4+1,Ns⟩=Nq (.int .i64 p.mx)/\W.cell? ⟨B,o+i*4+2,Ns⟩=Nq (.int .i64 p.bears)/\W.cell? ⟨B,o+i*4+3,Ns⟩=Nq (.int .i64 p.tall)):=by
 obtain⟨D,C,n,-,-,l,k⟩:=trod_struct2 u24 z;rw[JN] at l;rw[sC] at k;have⟨m,hm⟩:=jh k;refine⟨⟨m,by simpa using hm⟩,λG=>?_⟩;rcases vT l with b | ⟨a,h,q,b,A⟩
 ·simp at b;omega
 ·simp at b;obtain⟨rfl,rfl,rfl⟩:=b;obtain⟨j,-⟩:=e a rfl;obtain⟨B,o,F⟩:=a;dsimp only at j;subst j;refine⟨B,o,rfl,λi y=>?_⟩;have⟨p,u,t,s,r⟩:=A i y;simp only[add_plain] at u t s r;exact⟨p,u,t,s,r⟩
def sM{a:NJ Ny}{l:Nu Ny}(h:a.toList=l):a=l.toArray:=by rw[<- h]
end
end
end Go.Proofs.YtidgnkmjgioapaaGreat
