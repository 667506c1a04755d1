/-
  Part 8 of the proof. gladstonelaw04.PileCounts answers true for every yard, parcel and list of numbers that the statement takes, and leaves its arguments as they were. No conditions.
-/
import Derived.Test.YtidgnkmjgioapaaGreatJ4
set_option maxRecDepth 100000
set_option maxHeartbeats 8000000
set_option linter.all false
open Array renaming getElem?_eq_getElem->qih,getElem?_eq_some_iff->qhs
open Bool renaming or_eq_true->qkt
open Go renaming Addr->qiG,FuncId->qj8,MemPlace->qoq,TypeId->qi4,Value->qhu,World->qhr,maxLen->qlg
open Go.DataW renaming trod->qnv
open Go.Frame renaming enter->qiz
open Go.Proofs.Tryz renaming prog->qi2,underlying3->qmD
open Go.World renaming cell?->qiq,shape?->qpA
open List renaming getElem?_append_left->qir,getElem?_eq_getElem->qhz
open Nat renaming zero_le->qiu
open Option renaming bind_eq_some_iff->qj3
namespace Go.Proofs.YtidgnkmjgioapaaGreat
section
open Go Go.RowKit
def qfA:mapsRowed qi2=true:=by kernel_rfl
def qdC:(Tryz.prog.stops == [])=true:=by kernel_rfl
def qdE:(Tryz.prog.stopKnobs == [])=true:=by kernel_rfl
def qfC:(Rows.pileLoadsRow.plainKeys == Tryz.prog.plainKeys)=true:=by kernel_rfl
def qdF:Tryz.prog.stopsHeard=true:=by kernel_rfl
def qfB:(Tryz.prog.make == some Rows.pileLoadsRow.make)=true:=by kernel_rfl
end
section
open Go Go.RowKit Go.Co Go.Sim Go.Conc Go.ConcN Go.ChangeShapes Go.WideShapes
def u24:Tryz.prog.underlying 24=some (.struct #[{ name := "Parcels",type:=22,offset:=0,embedded:=false,tag := "",pkgPath := "",byteOffset:=0 },{ name := "Limit",type:=3,offset:=1,embedded:=false,tag := "",pkgPath := "",byteOffset:=24 }]):=by kernel_rfl
def KH:Tryz.prog.cellsOf 3=1:=by kernel_rfl
def qef:Tryz.prog.cellsOf 22=1:=by kernel_rfl
def qee:Tryz.prog.cellsOf 24=2:=by kernel_rfl
def q7z:Tryz.prog.cellsOf 26=2:=by kernel_rfl
def q7y:Tryz.prog.cellsOf 28=4:=by kernel_rfl
def four{Y:Type}:∀(l:List Y),l.length=4->∃a b c d,l=[a,b,c,d]
 | [a,b,c,d],_=>⟨a,b,c,d,rfl⟩
def JV{Y:Type}{P:Nat->Y->Prop}:∀(n:Nat),(∀i,i<n->∃x,P i x)->∃l:List Y,l.length=n/\∀i,i<n->∃x,l[i]?=some x/\P i x
 | 0,_=>⟨[],rfl,λi a=>absurd a (Nat.not_lt_zero i)⟩
 | n+1,h=>by
  have⟨l,b,g⟩:=JV n λi a=>h i (by omega);have⟨x,c⟩:=h n (by omega);refine⟨l++[x],by simp[b],λi a=>?_⟩;by_cases e:i=n
  ·subst e;exact⟨x,by rw[<- b];simp,c⟩
  ·have⟨y,f,d⟩:=g i (by omega);exact⟨y,by rw[qir (by omega)];exact f,d⟩
section
variable{H:Type}{enc:qi4 × qhu->H}{w:qhr}{base:Nat}{spare:Nat->Bool}{held:Bool}
def vT{a:Nat}{b:List qhu}{x:DataW H × List qoq}(h:qnv enc qi2 w base spare held a 3 b=some x):∃n,b=[.int .i64 n]:=by
 obtain⟨n,c,-,-⟩:=DataW.trod_int qmD h;exact⟨n,c⟩
def q8w{c:Nat}{d:List qhu}{x:DataW H × List qoq}(h:qnv enc qi2 w base spare held c 26 d=some x):∃a b,d=[.int .i64 a,.int .i64 b]:=by
 obtain⟨p,o,n,-,e,g,f⟩:=trod_struct2 Tryz.underlying26 h;simp only[KH,q7z] at e g f
 match d,e with
 | [a,b],_=>
  have⟨l,j⟩:=vT g;have⟨k,i⟩:=vT f;simp at j i;exact⟨l,k,by rw[j,i]⟩
def JI{g:Nat}{e:List qhu}{x:DataW H × List qoq}(h:qnv enc qi2 w base spare held g 28 e=some x):∃p:Par,e=[.int .i64 p.mn,.int .i64 p.mx,.int .i64 p.bears,.int .i64 p.tall]:=by
 obtain⟨t,n,_,rfl,k,f,i⟩:=DataW.trod_struct Tryz.underlying28 h
 match t,f with
 | [s,r,q],_=>
  have C:qnv enc qi2 w base spare held n 26 (e.take 2)=some s:=by rw[<- q7z];simpa using i 0 _ rfl
  have B:qnv enc qi2 w base spare held n 3 ((e.drop 2).take 1)=some r:=by rw[<- KH];simpa using i 1 _ rfl
  have A:qnv enc qi2 w base spare held n 3 ((e.drop 3).take 1)=some q:=by rw[<- KH];simpa using i 2 _ rfl
  rw[q7y] at k;clear i;obtain⟨a,b,c,d,rfl⟩:=four e k;have⟨z,y,j⟩:=q8w C;have⟨v,o⟩:=vT B;have⟨u,l⟩:=vT A;simp at j o l;exact⟨⟨z,y,v,u⟩,by rw[j.1,j.2,o,l]⟩
def q2o{d:Nat}{l:List qhu}{x:DataW H × List qoq}(h:qnv enc qi2 w base spare held d 22 l=some x) :l=[.slice none 0 0]\/∃a b c,l=[.slice (some a) b c]/\∀i,i<b->∃p:Par,w.cell? ((a.add (i*4)).add 0)=some (.int .i64 p.mn)/\w.cell? ((a.add (i*4)).add 1)=some (.int .i64 p.mx)/\w.cell? ((a.add (i*4)).add 2)=some (.int .i64 p.bears)/\w.cell? ((a.add (i*4)).add 3)=some (.int .i64 p.tall):=by
 rcases DataW.trod_slice Tryz.underlying22 h with⟨f,-⟩ | ⟨a,b,c,k,o,n,-,j,-,-,-,-,q,g,-,-⟩
 ·exact .inl f
 ·refine .inr ⟨a,b,c,j,λi s=>?_⟩;have f:=g i s;rw[qhz (by omega),q7y,qj3] at f;obtain⟨u,t,r⟩:=f;obtain⟨p,rfl⟩:=JI r;obtain⟨-,-,e⟩:=World.cells?_some t;exact⟨p,e 0 (by omega),e 1 (by omega),e 2 (by omega),e 3 (by omega)⟩
end
def q9w(a:Option qiG)(i:Nat):Bool:=match a with
 | some a=>i == a.block
 | none=>false
def xP(W:qhr)(a:Option qiG):Prop:=∀x,a=some x->x.spot=none/\∃b e g,W.heap[x.block]?=some (.cells b e g)
def Qq[JunkSet]{W:qhr}{kn:Nat->Bool}{B o:Nat}{k:IntKind}{x:Int}(d:kn B=true)(h:W.cell? ⟨B,o,none⟩=some (.int k x))(c:∃b e g,W.heap[B]?=some (.cells b e g)):(Qr kn W).cell? ⟨B,o,none⟩=some (.int k x):=by
 obtain⟨b,e,g,a⟩:=c;have f:b[o]?=some (.int k x):=by simpa[qiq,a] using h
 have:=vV (kn:=kn) d a;simp only[qiq,this];exact q1o _ _ f
def q3C{W:qhr}{b:Nat}{t e:qi4}{v:qhu}(k:Tryz.prog.underlying t=some (.slice e))(h:Cell.okWide qi2 W .any b t v):∃a d f,v=.slice a d f/\xP W a/\d<=f:=by
 obtain⟨a,d,f,rfl⟩:∃a d f,v=.slice a d f:=by
  simp only[Cell.okWide,k] at h;cases v<;>simp_all [Cell.ok]
 simp only[Cell.okWide,k,Cell.ok] at h;cases a with
 | none=>
  refine⟨_,_,_,rfl,(λx e=>by cases e),?_⟩;split at h<;>simp_all
 | some a=>
  simp only[World.has] at h;obtain⟨p,_,_,o,l,j,i,_⟩:=h;refine⟨_,_,_,rfl,λx e=>?_,p⟩;cases e;refine⟨o,?_⟩;unfold qpA at i;split at i
  ·rename_i c e g n
   exact⟨c,e,g,n⟩
  ·cases i
def q3d{W:qhr}{b:Nat}{t e:qi4}{v:qhu}(f:Tryz.prog.underlying t=some (.slice e))(h:Value.okWide qi2 W .any b t v):∃a c d,v=.slice a c d/\xP W a/\c<=d :=
 q3C f (by simpa only[Value.okWide,f] using h)
def qcF{W:qhr}{b:Nat}{v:qhu}(h:Value.okWide qi2 W .any b 24 v):∃a c d x,v=.agg #[.slice a c d,x]/\xP W a/\c<=d:=by
 simp only[Value.okWide,u24] at h;obtain⟨j,rfl,o,t,g,-,p⟩:=h;rw[show Tryz.prog.cellTypes Tryz.prog.depth 24=some [22,3] by kernel_rfl] at g;cases g;rw[qee] at o;obtain⟨l,e⟩:∃x,j[0]?=some x:=⟨_,qih (by omega)⟩;obtain⟨k,f⟩:∃x,j[1]?=some x:=⟨_,qih (by omega)⟩;have⟨u,n,q⟩:=p 0 l e;cases n;obtain⟨a,c,d,rfl,s,r⟩:=q3C Tryz.underlying22 q;refine⟨a,c,d,k,?_,s,r⟩
 congr 1
 refine Array.ext_getElem? λi=>?_
 match i with
 | 0=>simpa using e
 | 1=>simpa using f
 | i+2=>rw[Array.getElem?_eq_none (by omega)];simp
section
variable{H:Type}{enc:qi4 × qhu->H}{W:qhr}
def qbx{e:Nat}{l:Option qiG}{c k:Nat}{x:DataW H × List qoq}(j:xP W l)(u:qnv enc qi2 W 0 (λ_=>true) true e 29 [.slice l c k]=some x) :(c:Int)<=9223372036854775807/\(0<c->∃g f,l=some ⟨g,f,none⟩/\∀i,i<c->∃x,W.cell? ⟨g,f+i,none⟩=some (.int .i64 x)):=by
 rcases open_ints Tryz.underlying29 qmD KH u with⟨b,s⟩ | ⟨a,n,p,q,b,_,A,hm,r,s,d,t⟩
 ·simp at b;obtain⟨rfl,rfl,rfl⟩:=b;exact⟨by omega,λh=>by omega⟩
 ·simp at b;obtain⟨rfl,rfl,rfl⟩:=b;simp only[if_true] at r;refine⟨by simp only[qlg] at hm;omega,λz=>?_⟩;obtain⟨o,-⟩:=j a rfl;obtain⟨g,f,y⟩:=a;dsimp only at o;subst o;refine⟨g,f,rfl,λi B=>⟨q.getD i 0,?_⟩⟩;have v:=d i (by omega)
  rwa [add_plain] at v
def q9F{d:Nat}{g:Option qiG}{c f:Nat}{v:qhu}{x:DataW H × List qoq}(e:xP W g)(z:qnv enc qi2 W 0 (λ_=>true) true d 24 [.slice g c f,v]=some x) :(∃n,v=.int .i64 n)/\(0<c->∃B o,g=some ⟨B,o,none⟩/\∀i,i<c->∃p:Par,W.cell? ⟨B,o+i*4,none⟩=some (.int .i64 p.mn)/\W.cell? ⟨B,o+i*4+1,none⟩=some (.int .i64 p.mx)/\W.cell? ⟨B,o+i*4+2,none⟩=some (.int .i64 p.bears)/\W.cell? ⟨B,o+i*4+3,none⟩=some (.int .i64 p.tall)):=by
 obtain⟨D,C,n,-,-,l,k⟩:=trod_struct2 u24 z;rw[qef] at l;rw[KH] at k;have⟨m,hm⟩:=vT k;refine⟨⟨m,by simpa using hm⟩,λG=>?_⟩;rcases q2o l with b | ⟨a,h,q,b,A⟩
 ·simp at b;omega
 ·simp at b;obtain⟨rfl,rfl,rfl⟩:=b;obtain⟨j,-⟩:=e a rfl;obtain⟨B,o,F⟩:=a;dsimp only at j;subst j;refine⟨B,o,rfl,λi y=>?_⟩;have⟨p,u,t,s,r⟩:=A i y;simp only[add_plain] at u t s r;exact⟨p,u,t,s,r⟩
def KT{a:Array qhu}{l:List qhu}(h:a.toList=l):a=l.toArray:=by rw[<- h]
end
end
section
open Go Go.RowKit Go.Co Go.Sim Go.Conc Go.ConcN Go.ChangeShapes Go.WideShapes
def qhf(f:qj8):Prop :=
 ∀ [J:JunkSet] {Post:qhu->qhr->Prop} {W:qhr},Two Ya qi2->JunkSet.okf 137->(∀i,¬ JunkSet.jk i)->∀{yb base:Option qiG} {ny yc len cap:Nat} {lim:Int} {p:Par} {wq:qhr},(len:Int)<=9223372036854775807 ->
  (0<len->∃c b,base=some ⟨c,b,none⟩/\∀i,i<len->∃x,wq.cell? ⟨c,b+i,none⟩=some (.int .i64 x))->qX wq 0 ->
  (ny<=1000->∃a:List Par,a.length=ny/\zi 0 wq.heap.size wq (.slice yb ny yc) a) ->
  (∀w,(∀j,j<W.heap.size->w.heap[j]?=W.heap[j]?)->w.os=W.os->w.output=W.output->W.heap.size<=w.heap.size->Post (.bool true) w) ->
  EL Ya qi2 f Post W (G (qiz Ya f #[.agg #[.slice yb ny yc,lim],.agg #[p.mn,p.mx,p.bears,p.tall],.slice base len cap] .normal) [ql f]) wq
def q92{f:qj8}(hf:f≠85)(X:lst.contains f=true)(T:qhf f){Post:qhu->qhr->Prop}{W:qhr}{A F:Option qiG}{C yc r cap:Nat}{lim:Int}{p:Par}(l:xP W A)(t:xP W F)(hl:(r:Int)<=9223372036854775807)(hr:0<r->∃S R,F=some ⟨S,R,none⟩/\∀i,i<r->∃x,W.cell? ⟨S,R+i,none⟩=some (.int .i64 x))(h0:qX W 0)(hY:0<C->∃B o,A=some ⟨B,o,none⟩/\∀i,i<C->∃p:Par,W.cell? ⟨B,o+i*4,none⟩=some (.int .i64 p.mn)/\W.cell? ⟨B,o+i*4+1,none⟩=some (.int .i64 p.mx)/\W.cell? ⟨B,o+i*4+2,none⟩=some (.int .i64 p.bears)/\W.cell? ⟨B,o+i*4+3,none⟩=some (.int .i64 p.tall))(u:∀w,(∀j,j<W.heap.size->w.heap[j]?=W.heap[j]?)->w.os=W.os->w.output=W.output->W.heap.size<=w.heap.size->Post (.bool true) w) :Go.Co.Ends qi2 Post (solo (G (qiz qi2 f #[.agg #[.slice A C yc,lim],.agg #[p.mn,p.mx,p.bears,p.tall],.slice F r cap] .normal) []) W) #[]:=by
 letI:JunkSet:=JS Ya qi2 ls λ_=>False
 obtain⟨Q,e0,g0,z,Z⟩:=h0;have a6:0<W.heap.size:=(qhs.1 z).1
 let kn:Nat->Bool:=λi=>i == 0 || q9w A i || q9w F i
 have O:∀a x,xP W a->q9w a x=true->∃D e g,W.heap[x]?=some (.cells D e g):=by
  intro a x V hb;cases a with
  | none=>cases hb
  | some a=>
   obtain rfl:x=a.block:=by simpa[q9w] using hb
   exact(V a rfl).2
 have Y:∀i,kn i=true->i<W.heap.size->∃D e g,W.heap[i]?=some (.cells D e g):=by
  intro i q _;simp only[kn,qkt,beq_iff_eq] at q;rcases q with(rfl | q) | q
  ·exact⟨_,_,_,z⟩
  ·exact O _ _ l q
  ·exact O _ _ t q
 have I:∀a n c,xP W a->(∀x,a=some x->kn x.block=true)->VR (Y5 kn W.heap.size) (.slice a n c) (.slice a n c):=by
  intro a n c V hk;cases a with
  | none=>exact .sliceNil _ _
  | some a=>
   have⟨N,D,e,g,M⟩:=V a rfl;have P:=hk a rfl;obtain⟨b,o,sp⟩:=a;dsimp only at N M P;subst N;exact .slice _ _ _ _ (xN.2 ⟨(qhs.1 M).1,P,rfl⟩)
 have H:∀x,A=some x->kn x.block=true:=λx e=>by simp[kn,q9w,e]
 have ka:∀x,F=some x->kn x.block=true:=λx e=>by simp[kn,q9w,e]
 refine EL.begin (kn:=kn) (aq:=#[.agg #[.slice A C yc,lim],.agg #[p.mn,p.mx,p.bears,p.tall],.slice F r cap]) qgj X (zd f hf) (λi h=>h) (by rw[q7t];exact a6) (λi q=>?_) Y ⟨rfl,λi x y d s=>?_⟩ ?_
 ·rw[q7t] at q;obtain rfl:i=0:=by omega
  rfl
 ·rw[d] at s;cases s
  match i,d with
  | 0,d=>
   cases d;refine .agg rfl λi x y d s=>?_;rw[d] at s;cases s
   match i,d with
   | 0,d=>cases d;exact I _ _ _ l H
   | 1,d=>cases d;exact .int _ _
   | i+2,d=>simp at d
  | 1,d=>
   cases d;refine .agg rfl λi x y d s=>?_;rw[d] at s;cases s
   match i,d with
   | 0,d=>cases d;exact .int _ _
   | 1,d=>cases d;exact .int _ _
   | 2,d=>cases d;exact .int _ _
   | 3,d=>cases d;exact .int _ _
   | i+4,d=>simp at d
  | 2,d=>cases d;exact I _ _ _ t ka
  | i+3,d=>simp at d
 ·refine T qgj (by show lst.contains 137=true;rfl) (λi h=>h) hl (λhp=>?_) ⟨_,_,_,vV (by rfl) z,λi v U=>?_⟩ (λhn=>?_) u
  ·obtain⟨S,R,rfl,h⟩:=hr hp;refine⟨S,R,rfl,λi q=>?_⟩;have⟨x,d⟩:=h i q;exact⟨x,Qq (ka _ rfl) d (t _ rfl).2⟩
  ·have L:i<Q.size:=by have:=(qhs.1 U).1;simpa[xV] using this
   have⟨k,m,e⟩:=Z i _ (qih L);rw[q1o _ _ (show Q[i]?=some (.int k m) by rw[<- e];exact qih L)] at U;cases U;exact⟨k,m,rfl⟩
  ·by_cases hz:C=0
   ·subst hz;exact⟨[],rfl,_,_,rfl,by decide,λh=>absurd rfl h⟩
   ·obtain⟨B,o,rfl,h⟩:=hY (by omega);obtain⟨ps,rfl,h2⟩:=JV C h;refine⟨ps,rfl,_,_,rfl,by omega,λ_=>⟨B,o,rfl,qiu _,?_,?_,λi q=>?_⟩⟩
    ·obtain⟨-,D,e,g,h3⟩:=l _ rfl;rw[yI];exact(qhs.1 h3).1
    ·obtain⟨-,D,e,g,h3⟩:=l _ rfl;rw[yI];exact(qhs.1 h3).1
    ·have⟨p,e,c1,c2,c3,c4⟩:=h2 i q;exact⟨p,e,Qq (H _ rfl) c1 (l _ rfl).2,Qq (H _ rfl) c2 (l _ rfl).2,Qq (H _ rfl) c3 (l _ rfl).2,Qq (H _ rfl) c4 (l _ rfl).2⟩
end
end Go.Proofs.YtidgnkmjgioapaaGreat
