/-
  Part 8 of the proof. gladstonelaw04.PileVerdicts answers true for every yard, parcel, pile, number and list of numbers that the statement takes, and leaves its arguments as they were. No conditions.
-/
import Derived.Test.YtidgnkmjgioapaaGreatJ4
set_option maxRecDepth 100000
set_option maxHeartbeats 8000000
set_option linter.all false
open Array renaming getElem?_eq_getElem->qip,getElem?_eq_some_iff->qhB
open Bool renaming or_eq_true->qky
open Go renaming Addr->qj5,FuncId->qjf,MemPlace->qos,TypeId->qid,Value->qhC,World->qhy,maxLen->qlc
open Go.DataW renaming trod->qnw
open Go.Frame renaming enter->qj1
open Go.Proofs.Tryz renaming prog->qi8,underlying29->qmv
open Go.World renaming cell?->qiA,shape?->qpC
open List renaming getElem?_append_left->qiD,getElem?_eq_getElem->qhG
open Nat renaming zero_le->qix
open Option renaming bind_eq_some_iff->qjb
namespace Go.Proofs.YtidgnkmjgioapaaGreat
section
open Go Go.RowKit
def qg2:mapsRowed qi8=true:=by kernel_rfl
def qe9:(Tryz.prog.stops == [])=true:=by kernel_rfl
def qeb:(Tryz.prog.stopKnobs == [])=true:=by kernel_rfl
def qg4:(Rows.pileLoadsRow.plainKeys == Tryz.prog.plainKeys)=true:=by kernel_rfl
def qec:Tryz.prog.stopsHeard=true:=by kernel_rfl
def qg3:(Tryz.prog.make == some Rows.pileLoadsRow.make)=true:=by kernel_rfl
end
section
open Go Go.RowKit Go.Co Go.Sim Go.Conc Go.ConcN Go.ChangeShapes Go.WideShapes
def u24:Tryz.prog.underlying 24=some (.struct #[{ name := "Parcels",type:=22,offset:=0,embedded:=false,tag := "",pkgPath := "",byteOffset:=0 },{ name := "Limit",type:=3,offset:=1,embedded:=false,tag := "",pkgPath := "",byteOffset:=24 }]):=by kernel_rfl
def q0a:Tryz.prog.cellsOf 3=1:=by kernel_rfl
def qes:Tryz.prog.cellsOf 22=1:=by kernel_rfl
def qer:Tryz.prog.cellsOf 24=2:=by kernel_rfl
def q8b:Tryz.prog.cellsOf 26=2:=by kernel_rfl
def q8a:Tryz.prog.cellsOf 28=4:=by kernel_rfl
def four{Y:Type}:∀(l:List Y),l.length=4->∃a b c d,l=[a,b,c,d]
 | [a,b,c,d],_=>⟨a,b,c,d,rfl⟩
def QK{Y:Type}{P:Nat->Y->Prop}:∀(n:Nat),(∀i,i<n->∃x,P i x)->∃l:List Y,l.length=n/\∀i,i<n->∃x,l[i]?=some x/\P i x
 | 0,_=>⟨[],rfl,λi a=>absurd a (Nat.not_lt_zero i)⟩
 | n+1,h=>by
  have⟨l,b,g⟩:=QK n λi a=>h i (by omega);have⟨x,c⟩:=h n (by omega);refine⟨l++[x],by simp[b],λi a=>?_⟩;by_cases e:i=n
  ·subst e;exact⟨x,by rw[<- b];simp,c⟩
  ·have⟨y,f,d⟩:=g i (by omega);exact⟨y,by rw[qiD (by omega)];exact f,d⟩
section
variable{H:Type}{enc:qid × qhC->H}{w:qhy}{base:Nat}{spare:Nat->Bool}{held:Bool}
def vY{a:Nat}{b:List qhC}{x:DataW H × List qos}(h:qnw enc qi8 w base spare held a 3 b=some x):∃n,b=[.int .i64 n]:=by
 obtain⟨n,c,-,-⟩:=DataW.trod_int Tryz.underlying3 h;exact⟨n,c⟩
def q96{c:Nat}{d:List qhC}{x:DataW H × List qos}(h:qnw enc qi8 w base spare held c 26 d=some x):∃a b,d=[.int .i64 a,.int .i64 b]:=by
 obtain⟨p,o,n,-,e,g,f⟩:=trod_struct2 Tryz.underlying26 h;simp only[q0a,q8b] at e g f
 match d,e with
 | [a,b],_=>
  have⟨l,j⟩:=vY g;have⟨k,i⟩:=vY f;simp at j i;exact⟨l,k,by rw[j,i]⟩
def Yj{g:Nat}{e:List qhC}{x:DataW H × List qos}(h:qnw enc qi8 w base spare held g 28 e=some x):∃p:Par,e=[.int .i64 p.mn,.int .i64 p.mx,.int .i64 p.bears,.int .i64 p.tall]:=by
 obtain⟨t,n,_,rfl,k,f,i⟩:=DataW.trod_struct Tryz.underlying28 h
 match t,f with
 | [s,r,q],_=>
  have C:qnw enc qi8 w base spare held n 26 (e.take 2)=some s:=by rw[<- q8b];simpa using i 0 _ rfl
  have B:qnw enc qi8 w base spare held n 3 ((e.drop 2).take 1)=some r:=by rw[<- q0a];simpa using i 1 _ rfl
  have A:qnw enc qi8 w base spare held n 3 ((e.drop 3).take 1)=some q:=by rw[<- q0a];simpa using i 2 _ rfl
  rw[q8a] at k;clear i;obtain⟨a,b,c,d,rfl⟩:=four e k;have⟨z,y,j⟩:=q96 C;have⟨v,o⟩:=vY B;have⟨u,l⟩:=vY A;simp at j o l;exact⟨⟨z,y,v,u⟩,by rw[j.1,j.2,o,l]⟩
def q2H{d:Nat}{l:List qhC}{x:DataW H × List qos}(h:qnw enc qi8 w base spare held d 22 l=some x) :l=[.slice none 0 0]\/∃a b c,l=[.slice (some a) b c]/\∀i,i<b->∃p:Par,w.cell? ((a.add (i*4)).add 0)=some (.int .i64 p.mn)/\w.cell? ((a.add (i*4)).add 1)=some (.int .i64 p.mx)/\w.cell? ((a.add (i*4)).add 2)=some (.int .i64 p.bears)/\w.cell? ((a.add (i*4)).add 3)=some (.int .i64 p.tall):=by
 rcases DataW.trod_slice Tryz.underlying22 h with⟨f,-⟩ | ⟨a,b,c,k,o,n,-,j,-,-,-,-,q,g,-,-⟩
 ·exact .inl f
 ·refine .inr ⟨a,b,c,j,λi s=>?_⟩;have f:=g i s;rw[qhG (by omega),q8a,qjb] at f;obtain⟨u,t,r⟩:=f;obtain⟨p,rfl⟩:=Yj r;obtain⟨-,-,e⟩:=World.cells?_some t;exact⟨p,e 0 (by omega),e 1 (by omega),e 2 (by omega),e 3 (by omega)⟩
end
def qhm(f:qjf):Prop :=
 ∀ [J:JunkSet] {Post:qhC->qhy->Prop} {W:qhy},Two Ya qi8->JunkSet.okf 137->(∀i,¬ JunkSet.jk i)->∀{yb a base:Option qj5} {ny yc nl lc len cap:Nat} {lim n:Int} {p:Par} {wq:qhy},(len:Int)<=9223372036854775807 ->
  (0<len->∃a c,base=some ⟨a,c,none⟩/\∀i,i<len->∃x,wq.cell? ⟨a,c+i,none⟩=some (.int .i64 x))->qZ wq 0 ->
  (ny<=1000->∃b:List Par,b.length=ny/\ze 0 wq.heap.size wq (.slice yb ny yc) b)->(nl<=1000->∃l:List Int,l.length=nl/\qR 0 wq.heap.size wq (.slice a nl lc) l/\nl<=lc) ->
  (∀w,(∀j,j<W.heap.size->w.heap[j]?=W.heap[j]?)->w.os=W.os->w.output=W.output->W.heap.size<=w.heap.size->Post (.bool true) w) ->
  EL Ya qi8 f Post W (G (qj1 Ya f #[.agg #[.slice yb ny yc,lim],.agg #[p.mn,p.mx,p.bears,p.tall],.slice a nl lc,n,.slice base len cap] .normal) [qk f]) wq
def q5s(a:Option qj5)(i:Nat):Bool:=match a with
 | some a=>i == a.block
 | none=>false
def vI(W:qhy)(a:Option qj5):Prop:=∀x,a=some x->x.spot=none/\∃b e g,W.heap[x.block]?=some (.cells b e g)
def xd[JunkSet]{W:qhy}{kn:Nat->Bool}{B o:Nat}{k:IntKind}{x:Int}(d:kn B=true)(h:W.cell? ⟨B,o,none⟩=some (.int k x))(c:∃b e g,W.heap[B]?=some (.cells b e g)):(Qy kn W).cell? ⟨B,o,none⟩=some (.int k x):=by
 obtain⟨b,e,g,a⟩:=c;have f:b[o]?=some (.int k x):=by simpa[qiA,a] using h
 have:=xe (kn:=kn) d a;simp only[qiA,this];exact q22 _ _ f
def q9j{f:qjf}(hf:f≠85)(b0:lst.contains f=true)(a6:qhm f){Post:qhC->qhy->Prop}{W:qhy}{O t Q:Option qj5}{P yc C lc s cap:Nat}{lim n:Int}{p:Par}(q:vI W O)(u:vI W t)(F:vI W Q)(hl:(s:Int)<=9223372036854775807)(hr:0<s->∃t Z,Q=some ⟨t,Z,none⟩/\∀i,i<s->∃x,W.cell? ⟨t,Z+i,none⟩=some (.int .i64 x))(h0:qZ W 0)(hY:0<P->∃B o,O=some ⟨B,o,none⟩/\∀i,i<P->∃p:Par,W.cell? ⟨B,o+i*4,none⟩=some (.int .i64 p.mn)/\W.cell? ⟨B,o+i*4+1,none⟩=some (.int .i64 p.mx)/\W.cell? ⟨B,o+i*4+2,none⟩=some (.int .i64 p.bears)/\W.cell? ⟨B,o+i*4+3,none⟩=some (.int .i64 p.tall))(hL:0<C->∃B o,t=some ⟨B,o,none⟩/\∀i,i<C->∃x,W.cell? ⟨B,o+i,none⟩=some (.int .i64 x))(V:C<=lc)(I:∀w,(∀j,j<W.heap.size->w.heap[j]?=W.heap[j]?)->w.os=W.os->w.output=W.output->W.heap.size<=w.heap.size->Post (.bool true) w) :Go.Co.Ends qi8 Post (solo (G (qj1 qi8 f #[.agg #[.slice O P yc,lim],.agg #[p.mn,p.mx,p.bears,p.tall],.slice t C lc,.int .i64 n,.slice Q s cap] .normal) []) W) #[]:=by
 letI:JunkSet:=JS Ya qi8 ls λ_=>False
 obtain⟨Y,e0,g0,M,b7⟩:=h0;have b8:0<W.heap.size:=(qhB.1 M).1
 let kn:Nat->Bool:=λi=>i == 0 || q5s O i || q5s t i || q5s Q i
 have L:∀a x,vI W a->q5s a x=true->∃A e g,W.heap[x]?=some (.cells A e g):=by
  intro a x hs hb;cases a with
  | none=>cases hb
  | some a=>
   obtain rfl:x=a.block:=by simpa[q5s] using hb
   exact(hs a rfl).2
 have b6:∀i,kn i=true->i<W.heap.size->∃A e g,W.heap[i]?=some (.cells A e g):=by
  intro i r _;simp only[kn,qky,beq_iff_eq] at r;rcases r with((rfl | r) | r) | r
  ·exact⟨_,_,_,M⟩
  ·exact L _ _ q r
  ·exact L _ _ u r
  ·exact L _ _ F r
 have D:∀a n c,vI W a->(∀x,a=some x->kn x.block=true)->VR (YE kn W.heap.size) (.slice a n c) (.slice a n c):=by
  intro a n c hs hk;cases a with
  | none=>exact .sliceNil _ _
  | some a=>
   have⟨U,A,e,g,T⟩:=hs a rfl;have X:=hk a rfl;obtain⟨b,o,sp⟩:=a;dsimp only at U T X;subst U;exact .slice _ _ _ _ (xT.2 ⟨(qhB.1 T).1,X,rfl⟩)
 have R:∀x,O=some x->kn x.block=true:=λx e=>by simp[kn,q5s,e]
 have kl:∀x,t=some x->kn x.block=true:=λx e=>by simp[kn,q5s,e]
 have ka:∀x,Q=some x->kn x.block=true:=λx e=>by simp[kn,q5s,e]
 refine EL.begin (kn:=kn) (aq:=#[.agg #[.slice O P yc,lim],.agg #[p.mn,p.mx,p.bears,p.tall],.slice t C lc,.int .i64 n,.slice Q s cap]) qgs b0 (zh f hf) (λi h=>h) (by rw[q86];exact b8) (λi r=>?_) b6 ⟨rfl,λi x y d z=>?_⟩ ?_
 ·rw[q86] at r;obtain rfl:i=0:=by omega
  rfl
 ·rw[d] at z;cases z
  match i,d with
  | 0,d=>
   cases d;refine .agg rfl λi x y d z=>?_;rw[d] at z;cases z
   match i,d with
   | 0,d=>cases d;exact D _ _ _ q R
   | 1,d=>cases d;exact .int _ _
   | i+2,d=>simp at d
  | 1,d=>
   cases d;refine .agg rfl λi x y d z=>?_;rw[d] at z;cases z
   match i,d with
   | 0,d=>cases d;exact .int _ _
   | 1,d=>cases d;exact .int _ _
   | 2,d=>cases d;exact .int _ _
   | 3,d=>cases d;exact .int _ _
   | i+4,d=>simp at d
  | 2,d=>cases d;exact D _ _ _ u kl
  | 3,d=>cases d;exact .int _ _
  | 4,d=>cases d;exact D _ _ _ F ka
  | i+5,d=>simp at d
 ·refine a6 qgs (by show lst.contains 137=true;rfl) (λi h=>h) hl (λhp=>?_) ⟨_,_,_,xe (by rfl) M,λi v hv=>?_⟩ (λhn=>?_) (λhn=>?_) I
  ·obtain⟨t,Z,rfl,h⟩:=hr hp;refine⟨t,Z,rfl,λi r=>?_⟩;have⟨x,d⟩:=h i r;exact⟨x,xd (ka _ rfl) d (F _ rfl).2⟩
  ·have S:i<Y.size:=by have:=(qhB.1 hv).1;simpa[xZ] using this
   have⟨k,m,e⟩:=b7 i _ (qip S);rw[q22 _ _ (show Y[i]?=some (.int k m) by rw[<- e];exact qip S)] at hv;cases hv;exact⟨k,m,rfl⟩
  ·by_cases hz:P=0
   ·subst hz;exact⟨[],rfl,_,_,rfl,by decide,λh=>absurd rfl h⟩
   ·obtain⟨B,o,rfl,h⟩:=hY (by omega);obtain⟨ps,rfl,h2⟩:=QK P h;refine⟨ps,rfl,_,_,rfl,by omega,λ_=>⟨B,o,rfl,qix _,?_,?_,λi r=>?_⟩⟩
    ·obtain⟨-,A,e,g,N⟩:=q _ rfl;rw[jo];exact(qhB.1 N).1
    ·obtain⟨-,A,e,g,N⟩:=q _ rfl;rw[jo];exact(qhB.1 N).1
    ·have⟨p,e,c1,c2,c3,c4⟩:=h2 i r;exact⟨p,e,xd (R _ rfl) c1 (q _ rfl).2,xd (R _ rfl) c2 (q _ rfl).2,xd (R _ rfl) c3 (q _ rfl).2,xd (R _ rfl) c4 (q _ rfl).2⟩
  ·by_cases hz:C=0
   ·subst hz;exact⟨[],rfl,⟨_,_,rfl,by decide,λh=>absurd rfl h⟩,V⟩
   ·obtain⟨B,o,rfl,h⟩:=hL (by omega);obtain⟨l,rfl,h2⟩:=QK C h;refine⟨l,rfl,⟨_,_,rfl,by omega,λ_=>⟨B,o,rfl,qix _,?_,?_,λi r=>?_⟩⟩,V⟩
    ·obtain⟨-,A,e,g,N⟩:=u _ rfl;rw[jo];exact(qhB.1 N).1
    ·obtain⟨-,A,e,g,N⟩:=u _ rfl;rw[jo];exact(qhB.1 N).1
    ·have⟨x,e,c1⟩:=h2 i r;rw[e];exact xd (kl _ rfl) c1 (u _ rfl).2
def q4f{W:qhy}{b:Nat}{t e:qid}{v:qhC}(k:Tryz.prog.underlying t=some (.slice e))(h:Cell.okWide qi8 W .any b t v):∃a d f,v=.slice a d f/\vI W a/\d<=f:=by
 obtain⟨a,d,f,rfl⟩:∃a d f,v=.slice a d f:=by
  simp only[Cell.okWide,k] at h;cases v<;>simp_all [Cell.ok]
 simp only[Cell.okWide,k,Cell.ok] at h;cases a with
 | none=>
  refine⟨_,_,_,rfl,(λx e=>by cases e),?_⟩;split at h<;>simp_all
 | some a=>
  simp only[World.has] at h;obtain⟨p,_,_,o,l,j,i,_⟩:=h;refine⟨_,_,_,rfl,λx e=>?_,p⟩;cases e;refine⟨o,?_⟩;unfold qpC at i;split at i
  ·rename_i c e g n
   exact⟨c,e,g,n⟩
  ·cases i
def Y0{W:qhy}{b:Nat}{t e:qid}{v:qhC}(f:Tryz.prog.underlying t=some (.slice e))(h:Value.okWide qi8 W .any b t v):∃a c d,v=.slice a c d/\vI W a/\c<=d :=
 q4f f (by simpa only[Value.okWide,f] using h)
def qdf{W:qhy}{b:Nat}{v:qhC}(h:Value.okWide qi8 W .any b 24 v):∃a c d x,v=.agg #[.slice a c d,x]/\vI W a/\c<=d:=by
 simp only[Value.okWide,u24] at h;obtain⟨j,rfl,o,t,g,-,p⟩:=h;rw[show Tryz.prog.cellTypes Tryz.prog.depth 24=some [22,3] by kernel_rfl] at g;cases g;rw[qer] at o;obtain⟨l,e⟩:∃x,j[0]?=some x:=⟨_,qip (by omega)⟩;obtain⟨k,f⟩:∃x,j[1]?=some x:=⟨_,qip (by omega)⟩;have⟨u,n,q⟩:=p 0 l e;cases n;obtain⟨a,c,d,rfl,s,r⟩:=q4f Tryz.underlying22 q;refine⟨a,c,d,k,?_,s,r⟩
 congr 1
 refine Array.ext_getElem? λi=>?_
 match i with
 | 0=>simpa using e
 | 1=>simpa using f
 | i+2=>rw[Array.getElem?_eq_none (by omega)];simp
section
variable{H:Type}{enc:qid × qhC->H}{W:qhy}
def q50{e:Nat}{l:Option qj5}{c k:Nat}{x:DataW H × List qos}(j:vI W l)(u:qnw enc qi8 W 0 (λ_=>true) true e 29 [.slice l c k]=some x) :(c:Int)<=9223372036854775807/\(0<c->∃g f,l=some ⟨g,f,none⟩/\∀i,i<c->∃x,W.cell? ⟨g,f+i,none⟩=some (.int .i64 x)):=by
 rcases open_ints qmv Tryz.underlying3 q0a u with⟨b,s⟩ | ⟨a,n,p,q,b,_,A,hm,r,s,d,t⟩
 ·simp at b;obtain⟨rfl,rfl,rfl⟩:=b;exact⟨by omega,λh=>by omega⟩
 ·simp at b;obtain⟨rfl,rfl,rfl⟩:=b;simp only[if_true] at r;refine⟨by simp only[qlc] at hm;omega,λz=>?_⟩;obtain⟨o,-⟩:=j a rfl;obtain⟨g,f,y⟩:=a;dsimp only at o;subst o;refine⟨g,f,rfl,λi B=>⟨q.getD i 0,?_⟩⟩;have v:=d i (by omega)
  rwa [add_plain] at v
def qad{d:Nat}{g:Option qj5}{c f:Nat}{v:qhC}{x:DataW H × List qos}(e:vI W g)(z:qnw enc qi8 W 0 (λ_=>true) true d 24 [.slice g c f,v]=some x) :(∃n,v=.int .i64 n)/\(0<c->∃B o,g=some ⟨B,o,none⟩/\∀i,i<c->∃p:Par,W.cell? ⟨B,o+i*4,none⟩=some (.int .i64 p.mn)/\W.cell? ⟨B,o+i*4+1,none⟩=some (.int .i64 p.mx)/\W.cell? ⟨B,o+i*4+2,none⟩=some (.int .i64 p.bears)/\W.cell? ⟨B,o+i*4+3,none⟩=some (.int .i64 p.tall)):=by
 obtain⟨D,C,n,-,-,l,k⟩:=trod_struct2 u24 z;rw[qes] at l;rw[q0a] at k;have⟨m,hm⟩:=vY k;refine⟨⟨m,by simpa using hm⟩,λG=>?_⟩;rcases q2H l with b | ⟨a,h,q,b,A⟩
 ·simp at b;omega
 ·simp at b;obtain⟨rfl,rfl,rfl⟩:=b;obtain⟨j,-⟩:=e a rfl;obtain⟨B,o,F⟩:=a;dsimp only at j;subst j;refine⟨B,o,rfl,λi y=>?_⟩;have⟨p,u,t,s,r⟩:=A i y;simp only[add_plain] at u t s r;exact⟨p,u,t,s,r⟩
def q0j{a:Array qhC}{l:List qhC}(h:a.toList=l):a=l.toArray:=by rw[<- h]
end
end
end Go.Proofs.YtidgnkmjgioapaaGreat
