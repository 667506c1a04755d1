/-
  Part 8 of the proof. gladstonelaw04.PileChecks answers true for every yard, parcel, pile, number and list of numbers, and leaves its arguments as they were. No conditions.
-/
import Derived.Test.YtidgnkmjgioapaaGreatJ4
set_option maxRecDepth 100000
set_option maxHeartbeats 8000000
set_option linter.all false
open Array renaming getElem?_eq_getElem->qhi,getElem?_eq_some_iff->qgy
open Bool renaming or_eq_true->qju
open Go renaming Addr->qi5,FuncId->qib,MemPlace->qnl,TypeId->qh8,Value->qgB,World->qgx,maxLen->qkq
open Go.DataW renaming trod->qmn
open Go.Frame renaming enter->qhD
open Go.Proofs.Tryz renaming prog->qh5,underlying29->qlq
open Go.World renaming cell?->qhs,shape?->qoz
open List renaming getElem?_append_left->qhz,getElem?_eq_getElem->qgG
open Nat renaming zero_le->qhx
open Option renaming bind_eq_some_iff->qi6
namespace Go.Proofs.YtidgnkmjgioapaaGreat
section
open Go Go.RowKit
theorem qf3:mapsRowed qh5=true:=by kernel_rfl
theorem qdc:(Tryz.prog.stops == [])=true:=by kernel_rfl
theorem qde:(Tryz.prog.stopKnobs == [])=true:=by kernel_rfl
theorem qf5:(Rows.pileLoadsRow.plainKeys == Tryz.prog.plainKeys)=true:=by kernel_rfl
theorem qdf:Tryz.prog.stopsHeard=true:=by kernel_rfl
theorem qf4:(Tryz.prog.make == some Rows.pileLoadsRow.make)=true:=by kernel_rfl
end
section
open Go Go.RowKit Go.Co Go.Sim Go.Conc Go.ConcN Go.ChangeShapes Go.WideShapes
theorem u24:Tryz.prog.underlying 24=some (.struct #[{ name := "Parcels",type:=22,offset:=0,embedded:=false,tag := "",pkgPath := "",byteOffset:=0 },{ name := "Limit",type:=3,offset:=1,embedded:=false,tag := "",pkgPath := "",byteOffset:=24 }]):=by kernel_rfl
theorem Ku:Tryz.prog.cellsOf 3=1:=by kernel_rfl
theorem qdv:Tryz.prog.cellsOf 22=1:=by kernel_rfl
theorem qdu:Tryz.prog.cellsOf 24=2:=by kernel_rfl
theorem q7h:Tryz.prog.cellsOf 26=2:=by kernel_rfl
theorem q7g:Tryz.prog.cellsOf 28=4:=by kernel_rfl
theorem four{Y:Type}:∀(l:List Y),l.length=4->∃a b c d,l=[a,b,c,d]
 | [a,b,c,d],_=>⟨a,b,c,d,rfl⟩
theorem Qn{Y:Type}{P:Nat->Y->Prop}:∀(n:Nat),(∀i,i<n->∃x,P i x)->∃l:List Y,l.length=n/\∀i,i<n->∃x,l[i]?=some x/\P i x
 | 0,_=>⟨[],rfl,λi hi=>absurd hi (Nat.not_lt_zero i)⟩
 | n+1,h=>by
  obtain⟨l,hl,h1⟩:=Qn n λi hi=>h i (by omega);obtain⟨x,hx⟩:=h n (by omega);refine⟨l++[x],by simp[hl],λi hi=>?_⟩;by_cases e:i=n
  ·subst e;exact⟨x,by rw[<- hl];simp,hx⟩
  ·obtain⟨y,h2,h3⟩:=h1 i (by omega);exact⟨y,by rw[qhz (by omega)];exact h2,h3⟩
section
variable{H:Type}{enc:qh8 × qgB->H}{w:qgx}{base:Nat}{spare:Nat->Bool}{held:Bool}
theorem vK{fuel:Nat}{cs:List qgB}{x:DataW H × List qnl}(h:qmn enc qh5 w base spare held fuel 3 cs=some x):∃n,cs=[.int .i64 n]:=by
 obtain⟨n,h1,-,-⟩:=DataW.trod_int Tryz.underlying3 h;exact⟨n,h1⟩
theorem q8c{fuel:Nat}{cs:List qgB}{x:DataW H × List qnl}(h:qmn enc qh5 w base spare held fuel 26 cs=some x):∃a b,cs=[.int .i64 a,.int .i64 b]:=by
 obtain⟨y0,y1,n,-,hl,h1,h2⟩:=trod_struct2 Tryz.underlying26 h;simp only[Ku,q7h] at hl h1 h2
 match cs,hl with
 | [a,b],_=>
  obtain⟨x1,e1⟩:=vK h1;obtain⟨x2,e2⟩:=vK h2;simp at e1 e2;exact⟨x1,x2,by rw[e1,e2]⟩
theorem JC{fuel:Nat}{cs:List qgB}{x:DataW H × List qnl}(h:qmn enc qh5 w base spare held fuel 28 cs=some x):∃p:Par,cs=[.int .i64 p.mn,.int .i64 p.mx,.int .i64 p.bears,.int .i64 p.tall]:=by
 obtain⟨xs,n,_,rfl,hl,hlen,hf⟩:=DataW.trod_struct Tryz.underlying28 h
 match xs,hlen with
 | [y0,y1,y2],_=>
  have h1:qmn enc qh5 w base spare held n 26 (cs.take 2)=some y0:=by rw[<- q7h];simpa using hf 0 _ rfl
  have h2:qmn enc qh5 w base spare held n 3 ((cs.drop 2).take 1)=some y1:=by rw[<- Ku];simpa using hf 1 _ rfl
  have h3:qmn enc qh5 w base spare held n 3 ((cs.drop 3).take 1)=some y2:=by rw[<- Ku];simpa using hf 2 _ rfl
  rw[q7g] at hl;clear hf;obtain⟨a,b,c,d,rfl⟩:=four cs hl;obtain⟨x1,x2,e1⟩:=q8c h1;obtain⟨x3,e3⟩:=vK h2;obtain⟨x4,e4⟩:=vK h3;simp at e1 e3 e4;exact⟨⟨x1,x2,x3,x4⟩,by rw[e1.1,e1.2,e3,e4]⟩
theorem q2a{fuel:Nat}{cs:List qgB}{x:DataW H × List qnl}(h:qmn enc qh5 w base spare held fuel 22 cs=some x) :cs=[.slice none 0 0]\/∃a len cap,cs=[.slice (some a) len cap]/\∀i,i<len->∃p:Par,w.cell? ((a.add (i*4)).add 0)=some (.int .i64 p.mn)/\w.cell? ((a.add (i*4)).add 1)=some (.int .i64 p.mx)/\w.cell? ((a.add (i*4)).add 2)=some (.int .i64 p.bears)/\w.cell? ((a.add (i*4)).add 3)=some (.int .i64 p.tall):=by
 rcases DataW.trod_slice Tryz.underlying22 h with⟨h1,-⟩ | ⟨a,len,cap,elems,rest,n,-,hcs,-,-,-,-,hlen,hel,-,-⟩
 ·exact .inl h1
 ·refine .inr ⟨a,len,cap,hcs,λi hi=>?_⟩;have h1:=hel i hi;rw[qgG (by omega),q7g,qi6] at h1;obtain⟨c4,hc,ht⟩:=h1;obtain⟨p,rfl⟩:=JC ht;obtain⟨-,-,hg⟩:=World.cells?_some hc;exact⟨p,hg 0 (by omega),hg 1 (by omega),hg 2 (by omega),hg 3 (by omega)⟩
end
def qgl(f:qib):Prop :=
 ∀ [J:JunkSet] {Post:qgB->qgx->Prop} {W:qgx},Two Ya qh5->JunkSet.okf 137->(∀i,¬ JunkSet.jk i)->∀{yb lb base:Option qi5} {ny yc nl lc len cap:Nat} {lim n:Int} {p:Par} {wq:qgx},(len:Int)<=9223372036854775807 ->
  (0<len->∃lb lo,base=some ⟨lb,lo,none⟩/\∀i,i<len->∃x,wq.cell? ⟨lb,lo+i,none⟩=some (.int .i64 x))->qT wq 0 ->
  (ny<=1000->∃ps:List Par,ps.length=ny/\zA 0 wq.heap.size wq (.slice yb ny yc) ps)->(nl<=1000->∃l:List Int,l.length=nl/\zw 0 wq.heap.size wq (.slice lb nl lc) l/\nl<=lc) ->
  (∀w,(∀j,j<W.heap.size->w.heap[j]?=W.heap[j]?)->w.os=W.os->w.output=W.output->W.heap.size<=w.heap.size->Post (.bool true) w) ->
  EL Ya qh5 f Post W (G (qhD Ya f #[.agg #[.slice yb ny yc,lim],.agg #[p.mn,p.mx,p.bears,p.tall],.slice lb nl lc,n,.slice base len cap] .normal) [qj f]) wq
def q4E(a:Option qi5)(i:Nat):Bool:=match a with
 | some a=>i == a.block
 | none=>false
def vm(W:qgx)(a:Option qi5):Prop:=∀x,a=some x->x.spot=none/\∃cs e g,W.heap[x.block]?=some (.cells cs e g)
theorem vL[JunkSet]{W:qgx}{kn:Nat->Bool}{B o:Nat}{k:IntKind}{x:Int}(hk:kn B=true)(h:W.cell? ⟨B,o,none⟩=some (.int k x))(hs:∃cs e g,W.heap[B]?=some (.cells cs e g)):(Qc kn W).cell? ⟨B,o,none⟩=some (.int k x):=by
 obtain⟨cs,e,g,a6⟩:=hs;have hc:cs[o]?=some (.int k x):=by simpa[qhs,a6] using h
 have:=vM (kn:=kn) hk a6;simp only[qhs,this];exact q1b _ _ hc
theorem q8s{f:qib}(hf:f≠85)(d6:lst.contains f=true)(d5:qgl f){Post:qgB->qgx->Prop}{W:qgx}{yb lb a0:Option qi5}{ny yc nl lc len cap:Nat}{lim n:Int}{p:Par}(a6:vm W yb)(a7:vm W lb)(hsp:vm W a0)(hl:(len:Int)<=9223372036854775807)(hr:0<len->∃lb lo,a0=some ⟨lb,lo,none⟩/\∀i,i<len->∃x,W.cell? ⟨lb,lo+i,none⟩=some (.int .i64 x))(h0:qT W 0)(hY:0<ny->∃B o,yb=some ⟨B,o,none⟩/\∀i,i<ny->∃p:Par,W.cell? ⟨B,o+i*4,none⟩=some (.int .i64 p.mn)/\W.cell? ⟨B,o+i*4+1,none⟩=some (.int .i64 p.mx)/\W.cell? ⟨B,o+i*4+2,none⟩=some (.int .i64 p.bears)/\W.cell? ⟨B,o+i*4+3,none⟩=some (.int .i64 p.tall))(hL:0<nl->∃B o,lb=some ⟨B,o,none⟩/\∀i,i<nl->∃x,W.cell? ⟨B,o+i,none⟩=some (.int .i64 x))(b9:nl<=lc)(a9:∀w,(∀j,j<W.heap.size->w.heap[j]?=W.heap[j]?)->w.os=W.os->w.output=W.output->W.heap.size<=w.heap.size->Post (.bool true) w) :Go.Co.Ends qh5 Post (solo (G (qhD qh5 f #[.agg #[.slice yb ny yc,lim],.agg #[p.mn,p.mx,p.bears,p.tall],.slice lb nl lc,.int .i64 n,.slice a0 len cap] .normal) []) W) #[]:=by
 letI:JunkSet:=JS Ya qh5 ls λ_=>False
 obtain⟨c9,e0,g0,b6,d8⟩:=h0;have d9:0<W.heap.size:=(qgy.1 b6).1
 let kn:Nat->Bool:=λi=>i == 0 || q4E yb i || q4E lb i || q4E a0 i
 have b0:∀a x,vm W a->q4E a x=true->∃cs e g,W.heap[x]?=some (.cells cs e g):=by
  intro a x hs hb;cases a with
  | none=>cases hb
  | some a=>
   obtain rfl:x=a.block:=by simpa[q4E] using hb
   exact(hs a rfl).2
 have d7:∀i,kn i=true->i<W.heap.size->∃cs e g,W.heap[i]?=some (.cells cs e g):=by
  intro i hi _;simp only[kn,qju,beq_iff_eq] at hi;rcases hi with((rfl | hi) | hi) | hi
  ·exact⟨_,_,_,b6⟩
  ·exact b0 _ _ a6 hi
  ·exact b0 _ _ a7 hi
  ·exact b0 _ _ hsp hi
 have a8:∀a n c,vm W a->(∀x,a=some x->kn x.block=true)->VR (JW kn W.heap.size) (.slice a n c) (.slice a n c):=by
  intro a n c hs hk;cases a with
  | none=>exact .sliceNil _ _
  | some a=>
   obtain⟨b8,cs,e,g,b7⟩:=hs a rfl;have c8:=hk a rfl;obtain⟨b,o,sp⟩:=a;dsimp only at b8 b7 c8;subst b8;exact .slice _ _ _ _ (xA.2 ⟨(qgy.1 b7).1,c8,rfl⟩)
 have ky:∀x,yb=some x->kn x.block=true:=λx e=>by simp[kn,q4E,e]
 have kl:∀x,lb=some x->kn x.block=true:=λx e=>by simp[kn,q4E,e]
 have ka:∀x,a0=some x->kn x.block=true:=λx e=>by simp[kn,q4E,e]
 refine EL.begin (kn:=kn) (aq:=#[.agg #[.slice yb ny yc,lim],.agg #[p.mn,p.mx,p.bears,p.tall],.slice lb nl lc,.int .i64 n,.slice a0 len cap]) qft d6 (z6 f hf) (λi h=>h) (by rw[q7c];exact d9) (λi hi=>?_) d7 ⟨rfl,λi x y hx hy=>?_⟩ ?_
 ·rw[q7c] at hi;obtain rfl:i=0:=by omega
  rfl
 ·rw[hx] at hy;cases hy
  match i,hx with
  | 0,hx=>
   cases hx;refine .agg rfl λi x y hx hy=>?_;rw[hx] at hy;cases hy
   match i,hx with
   | 0,hx=>cases hx;exact a8 _ _ _ a6 ky
   | 1,hx=>cases hx;exact .int _ _
   | i+2,hx=>simp at hx
  | 1,hx=>
   cases hx;refine .agg rfl λi x y hx hy=>?_;rw[hx] at hy;cases hy
   match i,hx with
   | 0,hx=>cases hx;exact .int _ _
   | 1,hx=>cases hx;exact .int _ _
   | 2,hx=>cases hx;exact .int _ _
   | 3,hx=>cases hx;exact .int _ _
   | i+4,hx=>simp at hx
  | 2,hx=>cases hx;exact a8 _ _ _ a7 kl
  | 3,hx=>cases hx;exact .int _ _
  | 4,hx=>cases hx;exact a8 _ _ _ hsp ka
  | i+5,hx=>simp at hx
 ·refine d5 qft (by show lst.contains 137=true;rfl) (λi h=>h) hl (λhp=>?_) ⟨_,_,_,vM (by rfl) b6,λi v hv=>?_⟩ (λhn=>?_) (λhn=>?_) a9
  ·obtain⟨lb,lo,rfl,h⟩:=hr hp;refine⟨lb,lo,rfl,λi hi=>?_⟩;obtain⟨x,hx⟩:=h i hi;exact⟨x,vL (ka _ rfl) hx (hsp _ rfl).2⟩
  ·have hsz:i<c9.size:=by have:=(qgy.1 hv).1;simpa[xG] using this
   obtain⟨k,m,e⟩:=d8 i _ (qhi hsz);rw[q1b _ _ (show c9[i]?=some (.int k m) by rw[<- e];exact qhi hsz)] at hv;cases hv;exact⟨k,m,rfl⟩
  ·by_cases hz:ny=0
   ·subst hz;exact⟨[],rfl,_,_,rfl,by decide,λh=>absurd rfl h⟩
   ·obtain⟨B,o,rfl,h⟩:=hY (by omega);obtain⟨ps,rfl,h2⟩:=Qn ny h;refine⟨ps,rfl,_,_,rfl,by omega,λ_=>⟨B,o,rfl,qhx _,?_,?_,λi hi=>?_⟩⟩
    ·obtain⟨-,cs,e,g,h3⟩:=a6 _ rfl;rw[jh];exact(qgy.1 h3).1
    ·obtain⟨-,cs,e,g,h3⟩:=a6 _ rfl;rw[jh];exact(qgy.1 h3).1
    ·obtain⟨p,e,c1,c2,c3,c4⟩:=h2 i hi;exact⟨p,e,vL (ky _ rfl) c1 (a6 _ rfl).2,vL (ky _ rfl) c2 (a6 _ rfl).2,vL (ky _ rfl) c3 (a6 _ rfl).2,vL (ky _ rfl) c4 (a6 _ rfl).2⟩
  ·by_cases hz:nl=0
   ·subst hz;exact⟨[],rfl,⟨_,_,rfl,by decide,λh=>absurd rfl h⟩,b9⟩
   ·obtain⟨B,o,rfl,h⟩:=hL (by omega);obtain⟨l,rfl,h2⟩:=Qn nl h;refine⟨l,rfl,⟨_,_,rfl,by omega,λ_=>⟨B,o,rfl,qhx _,?_,?_,λi hi=>?_⟩⟩,b9⟩
    ·obtain⟨-,cs,e,g,h3⟩:=a7 _ rfl;rw[jh];exact(qgy.1 h3).1
    ·obtain⟨-,cs,e,g,h3⟩:=a7 _ rfl;rw[jh];exact(qgy.1 h3).1
    ·obtain⟨x,e,c1⟩:=h2 i hi;rw[e];exact vL (kl _ rfl) c1 (a7 _ rfl).2
theorem q3p{W:qgx}{b:Nat}{t e:qh8}{v:qgB}(ht:Tryz.prog.underlying t=some (.slice e))(h:Cell.okWide qh5 W .any b t v):∃a len cap,v=.slice a len cap/\vm W a/\len<=cap:=by
 obtain⟨a,len,cap,rfl⟩:∃a len cap,v=.slice a len cap:=by
  simp only[Cell.okWide,ht] at h;cases v<;>simp_all [Cell.ok]
 simp only[Cell.okWide,ht,Cell.ok] at h;cases a with
 | none=>
  refine⟨_,_,_,rfl,(λx e=>by cases e),?_⟩;split at h<;>simp_all
 | some a=>
  simp only[World.has] at h;obtain⟨h0,_,_,h1,row,cells,h2,_⟩:=h;refine⟨_,_,_,rfl,λx e=>?_,h0⟩;cases e;refine⟨h1,?_⟩;unfold qoz at h2;split at h2
  ·rename_i c e g hc
   exact⟨c,e,g,hc⟩
  ·cases h2
theorem Jt{W:qgx}{b:Nat}{t e:qh8}{v:qgB}(ht:Tryz.prog.underlying t=some (.slice e))(h:Value.okWide qh5 W .any b t v):∃a len cap,v=.slice a len cap/\vm W a/\len<=cap :=
 q3p ht (by simpa only[Value.okWide,ht] using h)
theorem qci{W:qgx}{b:Nat}{v:qgB}(h:Value.okWide qh5 W .any b 24 v):∃a len cap x,v=.agg #[.slice a len cap,x]/\vm W a/\len<=cap:=by
 simp only[Value.okWide,u24] at h;obtain⟨cs,rfl,hs,ts,ht,-,hr⟩:=h;rw[show Tryz.prog.cellTypes Tryz.prog.depth 24=some [22,3] by kernel_rfl] at ht;cases ht;rw[qdu] at hs;obtain⟨x0,a6⟩:∃x,cs[0]?=some x:=⟨_,qhi (by omega)⟩;obtain⟨x1,a7⟩:∃x,cs[1]?=some x:=⟨_,qhi (by omega)⟩;obtain⟨u,hu,hk⟩:=hr 0 x0 a6;cases hu;obtain⟨a,len,cap,rfl,h1,h2⟩:=q3p Tryz.underlying22 hk;refine⟨a,len,cap,x1,?_,h1,h2⟩
 congr 1
 refine Array.ext_getElem? λi=>?_
 match i with
 | 0=>simpa using a6
 | 1=>simpa using a7
 | i+2=>rw[Array.getElem?_eq_none (by omega)];simp
section
variable{H:Type}{enc:qh8 × qgB->H}{W:qgx}
theorem q4b{fuel:Nat}{a0:Option qi5}{len cap:Nat}{x:DataW H × List qnl}(hsp:vm W a0)(hf:qmn enc qh5 W 0 (λ_=>true) true fuel 29 [.slice a0 len cap]=some x) :(len:Int)<=9223372036854775807/\(0<len->∃lb lo,a0=some ⟨lb,lo,none⟩/\∀i,i<len->∃x,W.cell? ⟨lb,lo+i,none⟩=some (.int .i64 x)):=by
 rcases open_ints qlq Tryz.underlying3 Ku hf with⟨hcs,hx⟩ | ⟨a,len',cap',zs,hcs,_,hl,hm,hz,hx,hcell,hwz⟩
 ·simp at hcs;obtain⟨rfl,rfl,rfl⟩:=hcs;exact⟨by omega,λh=>by omega⟩
 ·simp at hcs;obtain⟨rfl,rfl,rfl⟩:=hcs;simp only[if_true] at hz;refine⟨by simp only[qkq] at hm;omega,λhp=>?_⟩;obtain⟨hs,-⟩:=hsp a rfl;obtain⟨lb,lo,sp⟩:=a;dsimp only at hs;subst hs;refine⟨lb,lo,rfl,λi hi=>⟨zs.getD i 0,?_⟩⟩;have h1:=hcell i (by omega)
  rwa [add_plain] at h1
theorem q9i{fuel:Nat}{a0:Option qi5}{len cap:Nat}{v:qgB}{x:DataW H × List qnl}(hsp:vm W a0)(hf:qmn enc qh5 W 0 (λ_=>true) true fuel 24 [.slice a0 len cap,v]=some x) :(∃n,v=.int .i64 n)/\(0<len->∃B o,a0=some ⟨B,o,none⟩/\∀i,i<len->∃p:Par,W.cell? ⟨B,o+i*4,none⟩=some (.int .i64 p.mn)/\W.cell? ⟨B,o+i*4+1,none⟩=some (.int .i64 p.mx)/\W.cell? ⟨B,o+i*4+2,none⟩=some (.int .i64 p.bears)/\W.cell? ⟨B,o+i*4+3,none⟩=some (.int .i64 p.tall)):=by
 obtain⟨y0,y1,n,-,-,h1,h2⟩:=trod_struct2 u24 hf;rw[qdv] at h1;rw[Ku] at h2;obtain⟨m,hm⟩:=vK h2;refine⟨⟨m,by simpa using hm⟩,λhp=>?_⟩;rcases q2a h1 with hcs | ⟨a,len',cap',hcs,hc⟩
 ·simp at hcs;omega
 ·simp at hcs;obtain⟨rfl,rfl,rfl⟩:=hcs;obtain⟨hs,-⟩:=hsp a rfl;obtain⟨B,o,sp⟩:=a;dsimp only at hs;subst hs;refine⟨B,o,rfl,λi hi=>?_⟩;obtain⟨p,c0,c1,c2,c3⟩:=hc i hi;simp only[add_plain] at c0 c1 c2 c3;exact⟨p,c0,c1,c2,c3⟩
theorem KD{a:Array qgB}{l:List qgB}(h:a.toList=l):a=l.toArray:=by rw[<- h]
end
end
end Go.Proofs.YtidgnkmjgioapaaGreat
