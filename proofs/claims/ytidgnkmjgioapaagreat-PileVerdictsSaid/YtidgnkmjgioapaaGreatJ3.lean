/-
  Part 6 of the proof. gladstonelaw04.PileVerdicts answers true for every yard, parcel, pile, number and list of numbers that the statement takes, and leaves its arguments as they were. No conditions.
-/
import Derived.Test.YtidgnkmjgioapaaGreatJ2
import Derived.Test.YtidgnkmjgioapaaGreatRows
import Derived.Conc.LeavingOf
import Derived.Conc.HoldsTime
import Derived.ChangeSame
import Derived.ChangeVars
import Derived.JoinedOf
import Derived.RowKit
import Derived.RowKitTokens
import Derived.LaidHandle
import Derived.ProofKit
set_option maxRecDepth 100000
set_option maxHeartbeats 8000000
set_option linter.all false
open And renaming intro->qie
open Array renaming getElem?_eq_some_iff->qhB,getElem?_map->qo6,range->qlH,replicate_succ->qij,replicate_zero->qik
open Classical renaming byContradiction->qiG,em->qnB
open Go renaming Addr->qj5,Calls->qiw,Oper->qjx,Operand->qj0,TypeId->qid,Value->qhC,World->qhy,bodyPost_ret->qjw,execOp->ql0,heap_alloc_new->qhH,info_parts->qk1,maxLen->qlc,ownsRow_succ->qme,results_cell_tmp->qlv,wpList_append_own->ql8,yielded->qjG
open Go.Conc renaming base->qir,run_call_body->qnj
open Go.Frame renaming enter->qj1,finish_at->qkm
open Go.IntWalk renaming i64_in->qiv
open Go.Lib renaming hid->qhw
open Go.Proofs.Tryz renaming f20->qon,func20->qp7,ntmps106->qr4,ntmps111->qo0,prog->qi8
open Go.Region renaming wanted->qiy
open Go.Result renaming andThen_ok->qjv
open Go.RowKit renaming intOf->qj7
open Go.Sem renaming run_bind->qjz,run_pure->qn8
open Go.Value renaming int->qim,oneCell'->qjF,slice->qiH
open Go.World renaming grownBy_alloc->qhx,news_of_block->qjh,ownsRow_nil->qjE,size_alloc->qi6
open Go.World.grownBy renaming refl->qi2
open List renaming cons_append->qi9,drop_succ_cons->qig,drop_zero->qit,filter_append->qlF,find?_eq_none->qmp,getElem?_eq_getElem->qhG,getElem?_eq_some_iff->qic,getElem?_map->qjA,getElem?_range->qll,getElem?_take_of_lt->qjC,length_append->qjm,length_cons->qi3,length_filter_le->qko,length_nil->qi7,map_append->qk0,map_cons->qle,map_nil->qna,map_toArray->qn1,mem_append->qkn,mem_of_getElem?->qih,mem_range->qkg,mem_singleton->qkv,nil_append->qin,push_toArray->qiq,range->qiz,size_toArray->qiu,take_add_one->qja,take_length->qjt,take_of_length_le->qlx
open List.range renaming loop->qj9
open Nat renaming le_refl->qhz,le_trans->qi1,reduceAdd->qii,reduceSub->qiB,zero_add->qib,zero_le->qix
open Option renaming getD_some->qi0
namespace Go.Proofs.YtidgnkmjgioapaaGreat
section
open Go.RowKit
def kj(x a b:Int)(w:qhy)(f:a<=x)(d:x<=b) :qiw Ya 106 #[x,a,b] w λe c=>e=.returned (.bool true)/\w=c:=by
 go_enter Tp.x106,qr4;go_wp2;go_ret;exact⟨rfl,rfl⟩
def km(x a b:Int)(w:qhy)(c:¬ (a<=x/\x<=b)) :qiw Ya 106 #[x,a,b] w λe d=>e=.returned (.bool false)/\w=d:=by
 by_cases f:a<=x
 ·have g:¬ x<=b:=λh=>c ⟨f,h⟩;clear c;go_enter Tp.x106,qr4;go_wp2;go_ret;exact⟨rfl,rfl⟩
 ·clear c;go_enter Tp.x106,qr4;go_wp2;go_ret;exact⟨rfl,rfl⟩
def q13(a b c d:Int)(w:qhy)(h:¬ (1<=a/\a<=12)) :qiw Ya 111 #[.agg #[a,b,c,d]] w λe f=>e=.returned (.int .i64 1)/\w.gb f none:=by
 have g:=qhw h;clear h;go_enter Tp.x111,qo0;go_wp2_with (first
  | (go_at_call 106;refine(kj _ _ _ _ (by have:=g.out;omega) (by have:=g.out;omega)).mono ?_;rintro e f ⟨rfl,rfl⟩)
  | (go_at_call 106;(refine(km _ _ _ _ (by have:=g.out;omega)).mono ?_);rintro e f ⟨rfl,rfl⟩))
 go_ret;exact⟨rfl,qhx _ _ _⟩
def q12(a b c d:Int)(w:qhy)(i:1<=a/\a<=12)(h:¬ (1<=b/\b<=12)) :qiw Ya 111 #[.agg #[a,b,c,d]] w λe f=>e=.returned (.int .i64 1)/\w.gb f none:=by
 have g:=qhw (qie i h);clear i h;go_enter Tp.x111,qo0;go_wp2_with (first
  | (go_at_call 106;refine(kj _ _ _ _ (by have:=g.out;omega) (by have:=g.out;omega)).mono ?_;rintro e f ⟨rfl,rfl⟩)
  | (go_at_call 106;(refine(km _ _ _ _ (by have:=g.out;omega)).mono ?_);rintro e f ⟨rfl,rfl⟩))
 go_ret;exact⟨rfl,qhx _ _ _⟩
def q11(a b c d:Int)(w:qhy)(i:1<=a/\a<=12)(h:1<=b/\b<=12)(j:b<a) :qiw Ya 111 #[.agg #[a,b,c,d]] w λe f=>e=.returned (.int .i64 5)/\w.gb f none:=by
 have g:=qhw (qie i (qie h j));clear i h;go_enter Tp.x111,qo0;go_wp2_with (first
  | (go_at_call 106;refine(kj _ _ _ _ (by have:=g.out;omega) (by have:=g.out;omega)).mono ?_;rintro e f ⟨rfl,rfl⟩)
  | (go_at_call 106;(refine(km _ _ _ _ (by have:=g.out;omega)).mono ?_);rintro e f ⟨rfl,rfl⟩))
 go_ret;exact⟨rfl,qhx _ _ _⟩
def q10(a b c d:Int)(w:qhy)(j:1<=a/\a<=12)(i:1<=b/\b<=12)(k:¬ b<a)(h:¬ (0<=c/\c<=30)) :qiw Ya 111 #[.agg #[a,b,c,d]] w λe f=>e=.returned (.int .i64 1)/\w.gb f none:=by
 have g:=qhw (qie j (qie i (qie k h)));clear j i h;go_enter Tp.x111,qo0;go_wp2_with (first
  | (go_at_call 106;refine(kj _ _ _ _ (by have:=g.out;omega) (by have:=g.out;omega)).mono ?_;rintro e f ⟨rfl,rfl⟩)
  | (go_at_call 106;(refine(km _ _ _ _ (by have:=g.out;omega)).mono ?_);rintro e f ⟨rfl,rfl⟩))
 go_ret;exact⟨rfl,qhx _ _ _⟩
def q0H(a b c d:Int)(w:qhy)(k:1<=a/\a<=12)(j:1<=b/\b<=12)(l:¬ b<a)(i:0<=c/\c<=30)(h:¬ (1<=d/\d<=3)) :qiw Ya 111 #[.agg #[a,b,c,d]] w λe f=>e=.returned (.int .i64 1)/\w.gb f none:=by
 have g:=qhw (qie k (qie j (qie l (qie i h))));clear k j i h;go_enter Tp.x111,qo0;go_wp2_with (first
  | (go_at_call 106;refine(kj _ _ _ _ (by have:=g.out;omega) (by have:=g.out;omega)).mono ?_;rintro e f ⟨rfl,rfl⟩)
  | (go_at_call 106;(refine(km _ _ _ _ (by have:=g.out;omega)).mono ?_);rintro e f ⟨rfl,rfl⟩))
 go_ret;exact⟨rfl,qhx _ _ _⟩
def q0G(a b c d:Int)(w:qhy)(k:1<=a/\a<=12)(j:1<=b/\b<=12)(l:¬ b<a)(i:0<=c/\c<=30)(h:1<=d/\d<=3) :qiw Ya 111 #[.agg #[a,b,c,d]] w λe f=>e=.returned (.int .i64 0)/\w.gb f none:=by
 have g:=qhw (qie k (qie j (qie l (qie i h))));clear k j i h;go_enter Tp.x111,qo0;go_wp2_with (first
  | (go_at_call 106;refine(kj _ _ _ _ (by have:=g.out;omega) (by have:=g.out;omega)).mono ?_;rintro e f ⟨rfl,rfl⟩)
  | (go_at_call 106;(refine(km _ _ _ _ (by have:=g.out;omega)).mono ?_);rintro e f ⟨rfl,rfl⟩))
 go_ret;exact⟨rfl,qhx _ _ _⟩
def xu(p:Par)(w:qhy):qiw Ya 111 #[.agg #[p.mn,p.mx,p.bears,p.tall]] w λe g=>e=.returned (.int .i64 (Q9 p))/\w.gb g none:=by
 unfold Q9;by_cases a:1<=p.mn/\p.mn<=12
 ·by_cases b:1<=p.mx/\p.mx<=12
  ·by_cases c:p.mx<p.mn
   ·rw[if_pos a,if_pos b,if_pos c];exact q11 _ _ _ _ w a b c
   ·by_cases d:0<=p.bears/\p.bears<=30
    ·by_cases f:1<=p.tall/\p.tall<=3
     ·rw[if_pos a,if_pos b,if_neg c,if_pos d,if_pos f];exact q0G _ _ _ _ w a b c d f
     ·rw[if_pos a,if_pos b,if_neg c,if_pos d,if_neg f];exact q0H _ _ _ _ w a b c d f
    ·rw[if_pos a,if_pos b,if_neg c,if_neg d];exact q10 _ _ _ _ w a b c d
  ·rw[if_pos a,if_neg b];exact q12 _ _ _ _ w a b
 ·rw[if_neg a];exact q13 _ _ _ _ w a
def q08(lo j:Nat)(T:qhC)(b:List Par)(a:Int)(w:qhy)(hY:q5v lo j w T b a)(b8:j<=w.heap.size) :qiw Ya 53 #[T] w λe N=>e=.returned (.int .i64 (jF b a))/\w.gb N none:=by
 obtain⟨qv,rfl,I⟩:=hY;obtain⟨Y,X,rfl,b7,-⟩:=I.cell;by_cases L:5<b.length
 ·have f:=qhw (show jF b a=6 by unfold jF;rw[if_pos L]);have Q:(5:Int)<b.length:=by omega
  clear I;go_enter Tp.x53,Tryz.ntmps53;go_wp2;go_ret;exact⟨by rw[f];rfl,qhx _ _ _⟩
 ·have⟨A,w1,W,v,l,n⟩:=qT w (.cells #[.slice Y b.length X,a] 24);have S:=qhw (I.kept l);have⟨R,HA,s⟩:=qY v W l;have q0:=q8 n (o:=0) rfl;have q1:=q8 n (o:=1) rfl;have Q:¬ (5:Int)<b.length:=by omega
  clear I v W l n;go_enter Tp.x53,Tryz.ntmps53;go_upto_region 1 with(fail);rw[<- HA,<- R];go_wp2;go_loopw [3] (λO wr=>∃k:Nat,O=.int .i64 k/\k<=b.length/\(∀i p,i<k->b[i]?=some p->Q9 p=0)/\w1.gb wr none) (λO _=>(b.length - qj7 O).toNat)
  case atStart=>exact⟨0,rfl,by omega,λi p j=>absurd j (by omega),qi2 _ _⟩
  case round=>
   obtain⟨k,rfl,hk,x,D⟩:=hrel;have⟨d,M⟩:=qF x D;have F:=S.out.kept D;have a9:=D.cl q0;have a7:=D.cl q1;clear x D;by_cases B:k<b.length
   ·obtain⟨b2,c2,he,-,V⟩:=F.cell;cases he;obtain⟨YB,yo,rfl,c9,c8,c3,C⟩:=V (by intro e;rw[e] at B;simp at B);have⟨p,U,p0,p1,p2,p3⟩:=C k (by omega);have G:=qhw U;clear V C U F;by_cases H:Q9 p=0
    ·go_wp2_with (go_at_call 111;refine(xu p _).mono ?_;rintro e Z ⟨rfl,c⟩;rw[H];have r:=qhw c;clear c);go_roundw
     case rel=>
      refine⟨k+1,by simp,by omega,λi q j P=>?_,M.t r⟩;by_cases e:i=k
      ·subst e;rw[G] at P;cases P;exact H
      ·exact d i q (by omega) P
     case measure=>simp[qj7];omega
    ·have f:=qhw (show jF b a=Q9 p by
      unfold jF;rw[if_neg L,YZ _ b k p G (by simp[H]) (λi y j h=>by simp[d.out i y j h])])
     obtain⟨z,g⟩:∃z,Q9 p=z:=⟨_,rfl⟩;rw[g] at H f;have HZ:=qhw g;clear g;go_wp2_with (go_at_call 111;refine(xu p _).mono ?_;rintro e Z ⟨rfl,c⟩;rw[HZ];have r:=qhw c;clear c);go_ret;exact⟨by rw[f];rfl,(s.t M).t r⟩
   ·obtain rfl:k=b.length:=by omega
    by_cases u:1<=a/\a<=12
    ·have f:=qhw (show jF b a=0 by
      unfold jF;rw[if_neg L,Z6 _ b (λi y h=>by simp[d.out i y (qic.1 h).1 h])];exact if_pos u)
     go_wp2_with (go_at_call 106;refine(kj _ _ _ _ u.1 u.2).mono ?_;rintro e N ⟨rfl,rfl⟩);go_ret;exact⟨by rw[f];rfl,s.t M⟩
    ·have f:=qhw (show jF b a=1 by
      unfold jF;rw[if_neg L,Z6 _ b (λi y h=>by simp[d.out i y (qic.1 h).1 h])];exact if_neg u)
     have HL:=qhw u;clear u;go_wp2_with (go_at_call 106;refine(km _ _ _ _ HL).mono ?_;rintro e N ⟨rfl,rfl⟩);go_ret;exact⟨by rw[f];rfl,s.t M⟩
def KY(t A:Nat)(v:qhC)(l:List Int)(x:Int)(w:qhy)(n:qR t A w v l) :qiw Ya 107 #[v,x] w λe s=>e=.returned (.bool (decide (x∈l)))/\w=s:=by
 obtain⟨b,c,rfl,u,j⟩:=n.cell;have D:=qhw j;clear j n;go_enter Tp.x107,Tryz.ntmps107;go_wp2;go_loopw [5] (λd wr=>∃k:Nat,d=.int .i64 k/\k<=l.length/\x∉l.take k/\wr=w) (λd _=>(l.length - qj7 d).toNat)
 case atStart=>exact⟨0,rfl,by omega,by simp,rfl⟩
 case round=>
  obtain⟨k,rfl,F,i,rfl⟩:=hrel;have g:=qhw i;clear i;by_cases a:k<l.length
  ·obtain⟨B,o,rfl,-,-,-,p⟩:=D.out (by intro e;rw[e] at a;simp at a);have q:=p k a;obtain⟨y,f⟩:∃y,l[k]?=some y:=⟨_,qhG a⟩;rw[f] at q;simp only[qi0] at q;have z:(k:Int)<(l.length:Int):=by omega
   have r:=qhw f;clear p f;by_cases e:y=x
   ·subst e;have h:=qhw (show decide (y∈l)=true from decide_eq_true (qih r));go_wp2;go_ret;exact⟨by rw[h];rfl,by first | rfl | trivial⟩
   ·have G:(y == x)=false:=by rw[beq_eq_false_iff_ne];exact e
    have C:=qhw e;clear e;go_wp2;go_roundw
    case rel=>exact⟨k+1,by simp,by omega,by rw[qja,r];simp[g.out,Ne.symm C.out],by first | rfl | trivial⟩
    case measure=>simp[qj7];omega
  ·obtain rfl:k=l.length:=by omega
   rw[qjt] at g;have h:=qhw (show decide (x∈l)=false from decide_eq_false g);go_wp2;go_ret;exact⟨by rw[h];rfl,by first | rfl | trivial⟩
def Kd(a:List Par)(b:∀p∈a,0<=p.tall/\p.tall<=1000):∀(l:List Int) (k:Nat),k<=l.length->0<=qK a (l.take k)/\qK a (l.take k)<=1000*k
 | l,0,_=>by simp[qK]
 | l,k+1,e=>by
  have d:=Kd a b l k (by omega);rw[xz a l k _ (qhG (show k<l.length by omega))];have f:0<=jz a l[k]/\jz a l[k]<=1000:=by
   unfold jz;split
   ·rename_i p c
    exact b p (qih c)
   ·omega
  omega
def q1e(N R:Nat)(M qv:qhC)(a:List Par)(j:Int)(l:List Int)(w:qhy)(C:ze N R w M a)(D:qR N R w qv l)(O:∀x∈l,0<=x/\x<a.length)(P:∀p∈a,0<=p.tall/\p.tall<=1000)(hl:l.length<=1000) :qiw Ya 108 #[.agg #[M,j],qv] w λe w'=>e=.returned (.int .i64 (qK a l))/\w.gb w' none:=by
 obtain⟨Z,Y,rfl,b6,-⟩:=C.cell;obtain⟨base,d5,rfl,c3,-⟩:=D.cell;have⟨A,w1,U,n,f,s⟩:=qT w (.cells #[.slice Z a.length Y,j] 24);have H:=qhw (C.kept f);have I:=qhw (D.kept f);have⟨F,HA,L,HX⟩:=zI n U f O;have u:=qhw (Kd a P l);have q0:=q8 s (o:=0) rfl;clear C D n U f s O P;go_enter Tp.x108,Tryz.ntmps108;go_upto_region 3 with(fail);rw[<- HA,<- F];go_wp2;go_loopw [5,6] (λtv v wr=>∃k:Nat,v=.int .i64 k/\k<=l.length/\tv=.int .i64 (qK a (l.take k))/\w1.gb wr none) (λ_ v _=>(l.length - qj7 v).toNat)
 case atStart=>exact⟨0,rfl,by omega,by simp[qK],qi2 _ _⟩
 case round=>
  obtain⟨k,rfl,hk,rfl,i⟩:=hrel;have X:=qhw i;by_cases b:k<l.length
  ·obtain⟨b1,c1,z,-,S⟩:=(I.kept i).cell;cases z;obtain⟨B,o,rfl,-,-,-,V⟩:=S (by intro e;rw[e] at b;simp at b);have W:=V k b;obtain⟨x,d⟩:∃x,l[k]?=some x:=⟨_,qhG b⟩;have⟨b7,h⟩:=HX.out x (qih d);rw[d] at W;simp only[qi0] at W;have c:=xz a l k x d;have y:=u.out k hk;obtain⟨m,rfl⟩:∃m:Nat,x=m:=⟨x.toNat,by omega⟩;obtain⟨b2,c2,z,-,q⟩:=(H.kept i).cell;cases z;obtain⟨YB,yo,rfl,-,-,-,r⟩:=q (by intro e;rw[e] at h;simp at h;omega);have⟨p,Q,p0,p1,p2,p3⟩:=r m (by omega);rw[show jz a m=p.tall by unfold jz;simp[Q]] at c;have g:=u.out (k+1) b;rw[c] at g;have a9:=i.cl q0;have b9:(m:Int)<(a.length:Int):=h;have c8:(k:Int)<(l.length:Int):=by omega
   generalize qK a (l.take k)=T at y c g ⊢;have b8:IntKind.i64.wrap (T+p.tall)=T+p.tall:=qiv _ (by omega);have G:=qhw c;clear i S V q r Q d c;go_upto_region 5 with(fail);go_quiet (fail);go_wp2;go_roundw
   case rel=>exact⟨k+1,by simp,by omega,by rw[G],X.t (qi _ _ none)⟩
   case measure=>simp[qj7];omega
  ·obtain rfl:k=l.length:=by omega
   rw[qjt];clear i;go_wp2;go_ret;exact⟨rfl,L.t X⟩
def yy(pv qv:qhC)(d:List Par)(a:Int)(l:List Int)(w:qhy)(hP:ze 0 w.heap.size w pv d)(hI:qR 0 w.heap.size w qv l)(X:l.length<=1000)(G:∀b n c,qv=.slice b n c->n<=c) :qiw Ya 50 #[.agg #[pv,a],qv] w λe g=>e=.returned (.int .i64 (zA d a l))/\w.gb g none:=by
 obtain⟨yb,yc,rfl,l6,-⟩:=hP.cell;obtain⟨base,P,rfl,l9,-⟩:=hI.cell;have m8:=G _ _ _ rfl;clear G;have⟨A,V,hA,W,q,O⟩:=qT w (.cells #[.slice yb d.length yc,a] 24);have R:=qhw ((hP.kept q).mono (qhz _) q.size);have b6:=qhw ((hI.kept q).mono (qhz _) q.size);have⟨a9,HA,F⟩:=qY W hA q;have q0:=q8 O (o:=0) rfl;have q1:=q8 O (o:=1) rfl;clear hP hI W hA q O;by_cases H:jF d a=0;rotate_left
 ·have s:=qhw (show zA d a l=jF d a from if_neg H);obtain⟨c,N⟩:∃c,c=jF d a:=⟨_,rfl⟩;rw[<- N] at H;have b8:=qhw N;have m9:(c == 0)=false:=by rw[beq_eq_false_iff_ne];exact H
  clear N H;go_enter Tp.x50,Tryz.ntmps50;go_upto_region 1 with(fail);rw[<- HA,<- a9];go_wp2_with (go_at_call 53;refine(q08 0 _ _ d a V ⟨_,rfl,R⟩ (qhz _)).mono ?_;rintro e w2 ⟨rfl,r⟩;rw[<- b8];have S:=qhw r;clear r);go_ret;exact⟨by rw[s,<- b8];rfl,F.t S⟩
 have s:=qhw (show zA d a l=Ze d a l from if_pos H);have e7:=qhw (q5A H);have HC:=qhw H;clear H;go_enter Tp.x50,Tryz.ntmps50;go_upto_region 1 with(fail);rw[<- HA,<- a9];go_upto_region 4 with(go_at_call 53;refine(q08 0 _ _ d a V ⟨_,rfl,R⟩ (qhz _)).mono ?_;rintro e w2 ⟨rfl,r⟩;rw[HC];have S:=qhw r;clear r);go_wp2;go_loopw [6] (λiv wr=>∃k:Nat,iv=.int .i64 k/\k<=l.length/\(∀j,j<k->jH d l j=0)/\V.gb wr none) (λiv _=>(l.length - qj7 iv).toNat)
 case atStart=>exact⟨0,rfl,by omega,λj hj=>by omega,S⟩
 case round=>
  obtain⟨k,rfl,hk,a6,I⟩:=hrel;have⟨HG,v⟩:=qF I a6;have z:=I.cl q0;have y:=I.cl q1;clear a6;by_cases i:k<l.length
  ·have D:=qhw (b6.kept I);obtain⟨b1,c1,he,-,Y⟩:=D.out.cell;cases he;obtain⟨B,o,rfl,-,-,-,h4⟩:=Y (by intro e;rw[e] at i;simp at i);have d0:=h4 k i;obtain⟨x,L⟩:∃x,l[k]?=some x:=⟨_,qhG i⟩;rw[L] at d0;simp only[qi0] at d0;have m3:(k:Int)<(l.length:Int):=by omega
   have l7:IntKind.i64.wrap ((d.length:Int) - 1)=(d.length:Int) - 1:=qiv _ (by omega);have m5:(0:Int)<=(k:Int):=by omega
   have m4:(k:Int)<=(P:Int):=by omega
   have a8:=qhw L;clear I h4 Y L;go_upto_region 7 with(fail);go_still_tail 8,(by kernel_rfl);change wpList _ _ _ _ _ wr.drew;by_cases C:0<=x/\x<d.length;rotate_left
   ·have HE:=qhw (show Ze d a l=3 from Jo v i (by unfold jH;rw[a8];simp only[if_neg C]) (by decide));have e9:=qhw (show ¬ (0<=x/\x<=(d.length:Int) - 1) from λh=>C ⟨h.1,by omega⟩);clear C;go_wp2_with (go_at_call 106;refine(km _ _ _ _ e9).mono ?_;rintro e g ⟨rfl,rfl⟩);go_ret;exact⟨by rw[s,HE];rfl,(F.t HG).t (q9 _ _)⟩
   obtain⟨d6,d5⟩:=C;have Z:jH d l k=if x∈l.take k then 4 else 0:=by unfold jH;rw[a8];simp only[if_pos (qie d6 d5)]
   have b9:=qhw Z;clear Z;have e4:wr.drew.cell? ⟨B,o+k,none⟩=some (.int .i64 x):=d0;go_upto_region 9 with(go_at_call 106;refine(kj _ _ _ _ (by omega) (by omega)).mono ?_;rintro e g ⟨rfl,rfl⟩);refine jK (λu=>V.gb u none/\u.cell? ⟨B,o+k,none⟩=some (.int .i64 x)/\qR 0 V.heap.size u (.slice (some ⟨B,o,none⟩) l.length P) l) ⟨HG.t (q9 _ _),d0,D.kept (q9 _ none)⟩ (λu hF=>?_);obtain⟨gu,du,iu⟩:=hF;have b7:=qhw gu;have b0:=qhw ((iu.take k hk P).kept (q9 _ none));clear d0 e4 gu iu z y;go_still_tail 7,(by kernel_rfl);change wpList _ _ _ _ _ u.drew;by_cases f:x∈l.take k
   ·have HE:=qhw (show Ze d a l=4 from Jo v i (by rw[b9,if_pos f]) (by decide));have U:=qhw (decide_eq_true f);clear f;go_wp2_with (go_at_call 107;refine(KY 0 _ _ (l.take k) x _ b0).mono ?_;rintro e g ⟨rfl,rfl⟩;rw[U]);go_ret;exact⟨by rw[s,HE];rfl,(F.t b7).t (q9 _ _)⟩
   ·have U:=qhw (decide_eq_false f);have g7:=qhw (show jH d l k=0 by rw[b9,if_neg f]);clear f;go_wp2_with (go_at_call 107;refine(KY 0 _ _ (l.take k) x _ b0).mono ?_;rintro e g ⟨rfl,rfl⟩;rw[U]);go_roundw
    case rel=>exact⟨k+1,by simp,by omega,λj hj=>by
     by_cases e:j=k
     ·rw[e];exact g7
     ·exact v j (by omega),b7.t (q9 _ _)⟩
    case measure=>simp[qj7];omega
  ·obtain rfl:k=l.length:=by omega
   have HX:=qhw (show ∀x∈l,0<=x/\x<d.length by have:=ZO v hk;rwa [qjt] at this);have HZ:=qhw (show zA d a l=if qK d l<=a then 0 else 10 from s.t (q3h v));have e6:=qhw (R.kept I);have D:=qhw (b6.kept I);have HT:=qhw (show ∀p∈d,0<=p.tall/\p.tall<=1000 from λp hp=>by have:=e7.out.each p hp;omega);clear I;go_upto_region 11 with(fail);have e8:=qhw (show ∀g,wr.drew.gb g none->g.cell? A=some (.slice yb d.length yc)/\g.cell? ⟨A,1,none⟩=some (.int .i64 a) from λg h=>⟨((q9 wr none).t h).cl z,((q9 wr none).t h).cl y⟩);refine qr 5 (λg=>g.cell? A=some (.slice yb d.length yc)/\g.cell? ⟨A,1,none⟩=some (.int .i64 a)) (by kernel_rfl) (by kernel_rfl) ⟨z,y⟩ (λhHeld=>?_);simp only[qi3,qi7,qii,qiB,qib,qij,qik,qiq,qin,qi9];refine tk 0 (h:=tk 1 (h:=tk 3 (h:=tk 4 (h:=?_))));try go_frame
   refine rdc 2 λK hK=>?_;go_simp;go_at_call 108;refine(q1e 0 _ _ _ d a l _ (e6.kept (q9 _ none)) (D.kept (q9 _ none)) HX HT X).mono ?_;rintro e w6 ⟨rfl,M⟩;have G6:=qhw ((F.t HG).t ((q9 wr none).t M));refine hK.out _ _ (e8 _ M) (λhHeld=>?_);clear M;try go_frame
   refine⟨by kernel_rfl,?_⟩;simp only[qig,qit];generalize qK d l=T at HZ ⊢;clear hHeld z y;by_cases hT:T<=a
   ·have d7:¬ a<T:=by omega
    have Q:=qhw (HZ.t (if_pos hT));go_wp2;go_ret;exact⟨by rw[Q];rfl,G6⟩
   ·have d7:a<T:=by omega
    have Q:=qhw (HZ.t (if_neg hT));go_wp2;go_ret;exact⟨by rw[Q];rfl,G6⟩
def q31{d:List Par}{l:List Int}(h:∀j,j<l.length->jH d l j=0):l.Nodup:=by
 rw[List.nodup_iff_pairwise_ne,List.pairwise_iff_getElem];intro i j f c b e;have a:=h j c;unfold jH at a;rw[qhG c] at a;simp only at a;split at a
 ·rw[if_pos (by
   rw[<- e];refine List.mem_iff_getElem?.2 ⟨i,?_⟩;rw[qjC b,qhG f])] at a
  cases a
 ·cases a
def Qu{b:List Par}{a:Int}{l:List Int}(h:zA b a l=0):YOk b a/\POk b a l:=by
 have i:jF b a=0:=qiG λd=>by unfold zA at h;rw[if_neg d] at h;exact d h
 have f:=q5A i;have c:Ze b a l=0:=by unfold zA at h;rwa [if_pos i] at h
 have e:∀j,j<l.length->jH b l j=0:=by
  unfold Ze at c;cases hf:(qiz l.length).find? (λk=>decide (jH b l k≠0)) with
  | some k=>
   rw[hf] at c;have:=List.find?_some hf;simp at this;exact absurd c this
  | none=>
   intro j n;have:=qmp.1 hf j (qkg.2 n);simpa using this
 have g:∀x∈l,0<=x/\x<b.length:=by have:=ZO e (qhz _);rwa [qjt] at this
 have d:=q31 e;refine⟨f,g,d,?_,?_⟩
 ·rw[q3h e] at c;unfold q3g at c;exact qiG λo=>by rw[if_neg o] at c;cases c
 ·have:=vZ b.length l d g;have:=f.len;omega
end
section
open Go Go.RowKit Go.Co Go.Sim Go.Conc Go.ConcN
structure q3u(Z Y:Nat)(q:qhy):Prop where
 y:∀i,i<3->∃b c lm,∃qs:List Par,q.cell? ⟨Z,i*2,none⟩=some (.slice b qs.length c)/\q.cell? ⟨Z,i*2+1,none⟩=some (.int .i64 lm)/\ze 0 q.heap.size q (.slice b qs.length c) qs/\qs.length<=21
 l:∀k,k<3->∃b c,∃xs:List Int,q.cell? ⟨Y,k,none⟩=some (.slice b xs.length c)/\qR 0 q.heap.size q (.slice b xs.length c) xs/\xs.length<=21/\xs.length<=c
def q3u.kept{Z Y:Nat}{u w:qhy}(h:q3u Z Y u)(a:u.gb w none):q3u Z Y w:=by
 refine⟨λi q=>?_,λk p=>?_⟩
 ·have⟨b,c,o,j,f,e,d,r⟩:=h.y i q;exact⟨b,c,o,j,a.cl f,a.cl e,(d.kept a).mono (qhz _) a.size,r⟩
 ·have⟨b,c,g,f,e,d⟩:=h.l k p;exact⟨b,c,g,a.cl f,(e.kept a).mono (qhz _) a.size,d⟩
def q3u.of{Z Y:Nat}{q:qhy}{B A z v u t:Option qj5}{y x w s r p:Nat}{G F D:Int}{g f e:List Par}{c b a:List Int}(d:q.heap[Z]?=some (.cells #[.slice B g.length y,G,.slice A f.length x,F,.slice z e.length w,D] 24 (0,0)))(h:q.heap[Y]?=some (.cells #[.slice v c.length s,.slice u b.length r,.slice t a.length p] 29 (0,0)))(Q:ze 0 q.heap.size q (.slice B g.length y) g)(P:ze 0 q.heap.size q (.slice A f.length x) f)(O:ze 0 q.heap.size q (.slice z e.length w) e)(j:g.length<=21/\f.length<=21/\e.length<=21)(L:qR 0 q.heap.size q (.slice v c.length s) c)(I:qR 0 q.heap.size q (.slice u b.length r) b)(H:qR 0 q.heap.size q (.slice t a.length p) a)(l:c.length<=21/\b.length<=21/\a.length<=21)(n:c.length<=s/\b.length<=r/\a.length<=p):q3u Z Y q:=by
 refine⟨λi N=>?_,λk M=>?_⟩
 ·match i,N with
  | 0,_=>exact⟨_,_,_,g,q8 d (o:=0) rfl,q8 d (o:=1) rfl,Q,j.1⟩
  | 1,_=>exact⟨_,_,_,f,q8 d (o:=2) rfl,q8 d (o:=3) rfl,P,j.2.1⟩
  | 2,_=>exact⟨_,_,_,e,q8 d (o:=4) rfl,q8 d (o:=5) rfl,O,j.2.2⟩
 ·match k,M with
  | 0,_=>exact⟨_,_,c,q8 h (o:=0) rfl,L,l.1,n.1⟩
  | 1,_=>exact⟨_,_,b,q8 h (o:=1) rfl,I,l.2.1,n.2.1⟩
  | 2,_=>exact⟨_,_,a,q8 h (o:=2) rfl,H,l.2.2,n.2.2⟩
section
variable[J:JunkSet]{Post:qhC->qhy->Prop}{W:qhy}
end
end
section
open Go.RowKit
def qf7{a:List Par}{l:List Int}(c:∀x∈l,0<=x/\x<a.length):∀x∈l,0<=x/\(zC a)[x.toNat]?=some (pre Par.mn a a.length x.toNat,pre Par.mx a a.length x.toNat):=λx h=>by
 have d:=c x h;refine⟨d.1,?_⟩;have b:x.toNat<a.length:=by omega
 unfold zC;rw[qjA];unfold pre;rw[if_pos b,if_pos b,qhG b];rfl
def q5k{a:List Par}{d:Int}{l:List Int}{i:Nat}{p:Par}(e:YOk a d)(f:a[(l[i]?.getD 0).toNat]?=some p) :(p.bears<loadAt (pre Par.mn a a.length) l i/\zo a (pre Par.mn a a.length) (pre Par.mx a a.length) l i=1) \/(¬ p.bears<loadAt (pre Par.mn a a.length) l i/\loadAt (pre Par.mx a a.length) l i<=p.bears/\zo a (pre Par.mn a a.length) (pre Par.mx a a.length) l i=2) \/(¬ p.bears<loadAt (pre Par.mn a a.length) l i/\¬ loadAt (pre Par.mx a a.length) l i<=p.bears/\zo a (pre Par.mn a a.length) (pre Par.mx a a.length) l i=3):=by
 have hm:=Ym e.le l i;unfold zo jY;rw[f];simp only;by_cases b:loadAt (pre Par.mx a a.length) l i<=p.bears
 ·have c:loadAt (pre Par.mn a a.length) l i<=p.bears:=by omega
  exact .inr (.inl ⟨by omega,b,by rw[decide_eq_true b,decide_eq_true c];rfl⟩)
 ·by_cases c:loadAt (pre Par.mn a a.length) l i<=p.bears
  ·exact .inr (.inr ⟨by omega,b,by rw[decide_eq_false b,decide_eq_true c];rfl⟩)
  ·exact .inl ⟨by omega,by rw[decide_eq_false b,decide_eq_false c];rfl⟩
def yP{a W:qhy}(h:a.gb W none)(b:qid)(c:Array qhC):a.gb (W.alloc (.cells c b)) none/\(W.alloc (.cells c b)).heap[W.heap.size]?=some (.cells c b (0,0))/\a.heap.size<=W.heap.size:=⟨h.t (qhx _ _ none),qhH _ _,h.size⟩
def q6r{c W:qhy}{D:Nat}{a b u v:qhC}{d:qid}(h:c.gb W none)(g:W.heap[D]?=some (.cells #[a,b] d (0,0)))(f:c.heap.size<=D):c.gb ((W.setCell D u).setCell ⟨D,1,none⟩ v) none/\((W.setCell D u).setCell ⟨D,1,none⟩ v).heap[D]?=some (.cells #[u,v] d (0,0)) :=
 ⟨h.andThen ((qf W D 0 u).t (qf _ D 1 v)) (by rintro j e;cases e;exact .inl f),qg (o:=1) (v:=v) (qg (o:=0) (v:=u) g)⟩
def Jm(la ha lb hb lc hc:Nat)(pv qv bv:qhC)(d:List Par)(G:Int)(l:List Int)(i:Nat)(w:qhy)(hP:ze la ha w pv d)(hI:qR lb hb w qv l)(hB:qG lc hc w bv (zC d))(S:YOk d G)(hx:∀x∈l,0<=x/\x<d.length)(hl:l.length<=1000)(N:i<l.length) :qiw Ya 130 #[.agg #[pv,G],qv,bv,i] w λe w'=>e=.returned (.int .i64 (zo d (pre Par.mn d d.length) (pre Par.mx d d.length) l i))/\w.gb w' none:=by
 obtain⟨yb,U,rfl,h8,O⟩:=hP.cell;obtain⟨base,l4,rfl,k5,P⟩:=hI.cell;obtain⟨x,B⟩:∃x,l[i]?=some x:=⟨_,qhG N⟩;have h9:=hx x (qih B);obtain⟨m,rfl⟩:∃m:Nat,x=m:=⟨x.toNat,by omega⟩;have hm:m<d.length:=by omega
 obtain⟨R,I,rfl,-,-,-,h4⟩:=O (by intro e;rw[e] at hm;simp at hm);obtain⟨p,M,-,-,Z,-⟩:=h4 m hm;obtain⟨LB,lo,rfl,-,-,-,h5⟩:=P (by intro e;rw[e] at N;simp at N);have T:=h5 i N;rw[B] at T;simp only[qi0] at T;have C:=q5k (i:=i) (l:=l) S (p:=p) (by rw[B];simpa using M);have⟨A,q,hA,L,r,Q⟩:=qT w (.cells #[.slice (some ⟨R,I,none⟩) d.length U,G] 24);have y:=qhw λ(W:qhy) (h:q.gb W none)=>q25 lb hb lc hc _ _ l (zC d) _ _ i W (hI.kept (r.t h)) (hB.kept (r.t h)) (qf7 hx) S.mn S.mx hl N;generalize loadAt (pre Par.mn d d.length) l i=a at C y;generalize loadAt (pre Par.mx d d.length) l i=b at C y;generalize zo d (pre Par.mn d d.length) (pre Par.mx d d.length) l i=z at C ⊢;generalize p.bears=c at C Z;have k:=qhw (show ∀W,q.gb W none->W.cell? A=some (.slice (some ⟨R,I,none⟩) d.length U)/\W.cell? ⟨LB,lo+i,none⟩=some (.int .i64 m)/\W.cell? ⟨R,I+m*4+2,none⟩=some (.int .i64 c) from λW h=>⟨q8 (bk h Q) rfl,(r.t h).cl T,(r.t h).cl Z⟩);have k7:(i:Int)<(l.length:Int):=by omega
 have k0:(m:Int)<(d.length:Int):=by omega
 have⟨H3,b6,HA,b8⟩:=zI C L hA r;clear hP hI hB O P h4 h5 T Z B M C L hA r Q hx S;go_enter Tp.x130,Tryz.ntmps130;go_upto_region 1 with(fail);rw[<- HA,<- b6];go_cut [9,10] from 11 to 34 (λv9 V wx=>∃D,v9=.pointer (some ⟨D,0,none⟩)/\V=.int .i64 c/\q.gb wx none/\wx.heap[D]?=some (.cells #[a,b] 26 (0,0)))
 case first=>
  have f:=qhw (q9 q none);refine qr 15 (λW=>W.cell? A=some (.slice (some ⟨R,I,none⟩) d.length U)/\W.cell? ⟨LB,lo+i,none⟩=some (.int .i64 m)/\W.cell? ⟨R,I+m*4+2,none⟩=some (.int .i64 c)) (by kernel_rfl) (by kernel_rfl) (k _ f) (λhHeld=>?_);simp only[qi3,qi7,qii,qiB,qib,qij,qik,qiq,qin,qi9];refine tk 0 (h:=tk 1 (h:=tk 2 (h:=tk 4 (h:=tk 5 (h:=tk 6 (h:=tk 7 (h:=tk 8 (h:=tk 9 (h:=tk 10 (h:=tk 11 (h:=tk 12 (h:=?_))))))))))));try go_frame
  refine rdy [3,13] ?_;refine cns 3 (λK s=>?_) ?_
  ·skip;go_simp;go_at_call 105;refine(y _ f).mono ?_;rintro e F ⟨rfl,n⟩;replace f:=qhw (f.t n)
   (try replace j:=qhw (bk n j))
   clear n;refine s.out _ _ (k _ f) (λhHeld=>?_);refine rdc 13 λK s=>?_;go_simp;have g:=qhw (show q.gb (F.alloc (.cells #[.int .i64 0,.int .i64 0] 26)) none/\(F.alloc (.cells #[.int .i64 0,.int .i64 0] 26)).heap[F.heap.size]?=some (.cells #[.int .i64 0,.int .i64 0] 26 (0,0))/\q.heap.size<=F.heap.size from yP f 26 _);generalize F.alloc (.cells #[.int .i64 0,.int .i64 0] 26)=WN at g ⊢;generalize F.heap.size=D at g ⊢;replace f:=qhw g.1;have j:=qhw g.2.1;have H:=qhw g.2.2;clear g;refine s.out _ _ (k _ f) (λhHeld=>?_);refine rdc 14 λK s=>?_;have Y:=qj j (o:=0);have X:=qj j (o:=1);have c0:=q8 j (o:=0) rfl;have c1:=q8 j (o:=1) rfl;go_simp;have g:=qhw (q6r (u:=.int .i64 a) (v:=.int .i64 b) f j H);replace f:=qhw g.1;replace j:=qhw g.2;clear Y X c0 c1 g;refine s.out _ _ (k _ f) (λhHeld=>?_);try go_frame
   refine⟨by kernel_rfl,?_⟩;simp only[qig,qit];go_wp2;go_meet;exact⟨_,rfl,rfl,f,j⟩
  refine cns 13 (λK s=>?_) ?_
  ·skip;go_simp;have g:=qhw (show q.gb ((q.alloc (.cells #[.int .i64 0,.int .i64 0] 26)).drew) none/\((q.alloc (.cells #[.int .i64 0,.int .i64 0] 26)).drew).heap[q.heap.size]?=some (.cells #[.int .i64 0,.int .i64 0] 26 (0,0))/\q.heap.size<=q.heap.size from yP f 26 _);generalize (q.alloc (.cells #[.int .i64 0,.int .i64 0] 26)).drew=WN at g ⊢;replace f:=qhw g.1;have j:=qhw g.2.1;have H:=qhw g.2.2;clear g;refine s.out _ _ (k _ f) (λhHeld=>?_);refine rdc 3 λK s=>?_;go_simp;go_at_call 105;refine(y _ f).mono ?_;rintro e F ⟨rfl,n⟩;replace f:=qhw (f.t n)
   (try replace j:=qhw (bk n j))
   clear n;refine s.out _ _ (k _ f) (λhHeld=>?_);refine rdc 14 λK s=>?_;have Y:=qj j (o:=0);have X:=qj j (o:=1);have c0:=q8 j (o:=0) rfl;have c1:=q8 j (o:=1) rfl;go_simp;have g:=qhw (q6r (u:=.int .i64 a) (v:=.int .i64 b) f j H);replace f:=qhw g.1;replace j:=qhw g.2;clear Y X c0 c1 g;refine s.out _ _ (k _ f) (λhHeld=>?_);try go_frame
   refine⟨by kernel_rfl,?_⟩;simp only[qig,qit];go_wp2;go_meet;exact⟨_,rfl,rfl,f,j⟩
  exact qN.nil
 case rest=>
  obtain⟨D,rfl,rfl,hg,hD⟩:=hcut;have z0:=q8 hD (o:=0) rfl;have z1:=q8 hD (o:=1) rfl;have b7:=qhw (b8.t hg);have C:=H3.out;clear hg hD H3 k y;rcases C with⟨e1,rfl⟩ | ⟨e1,e2,rfl⟩ | ⟨e1,e2,rfl⟩;all_goals
   go_wp2;go_ret;exact⟨rfl,b7⟩
def q8u{a:List Par}{d:Int}(g:YOk a d){l:List Int}{k:Nat}(q:∀j,j<k->zo a (pre Par.mn a a.length) (pre Par.mx a a.length) l j≠1) :((∀j,j<k->zo a (pre Par.mn a a.length) (pre Par.mx a a.length) l j=2)->k=l.length->z9 a l=1)/\((∃j,j<k/\zo a (pre Par.mn a a.length) (pre Par.mx a a.length) l j=3)->k=l.length->z9 a l=3):=by
 have f:∀j,zo a (pre Par.mn a a.length) (pre Par.mx a a.length) l j=K7 (!jY a (pre Par.mn a a.length) l j) (!jY a (pre Par.mx a a.length) l j):=λj=>rfl;have hm:∀j,jY a (pre Par.mx a a.length) l j=true->jY a (pre Par.mn a a.length) l j=true:=λj h=>q1B g.le h;refine⟨λc e=>?_,λ⟨j,i,c⟩ e=>?_⟩
 ·have b:qw a (pre Par.mx a a.length) l=true:=jL.2 λj i=>by
   have:=c j (by omega);rw[f] at this;revert this;cases jY a (pre Par.mn a a.length) l j<;>cases jY a (pre Par.mx a a.length) l j<;>decide
  unfold z9;rw[b,xC g.le b];rfl
 ·have o:qw a (pre Par.mn a a.length) l=true:=jL.2 λj i=>by
   have:=q j (by omega);rw[f] at this;have p:=hm j;revert this p;cases jY a (pre Par.mn a a.length) l j<;>cases jY a (pre Par.mx a a.length) l j<;>decide
  have b:qw a (pre Par.mx a a.length) l=false:=by
   refine Bool.eq_false_iff.2 λh=>?_;have n:=jL.1 h j (by omega);rw[f,n,hm j n] at c;exact absurd c (by decide)
  unfold z9;rw[b,o];rfl
def q64{a:List Par}{c:Int}(e:YOk a c){l:List Int}{k:Nat}(g:k<l.length)(b:zo a (pre Par.mn a a.length) (pre Par.mx a a.length) l k=1):z9 a l=2:=by
 have d:qw a (pre Par.mn a a.length) l=false:=by
  refine Bool.eq_false_iff.2 λh=>?_;have i:=jL.1 h k g;have b:K7 (!jY a (pre Par.mn a a.length) l k) (!jY a (pre Par.mx a a.length) l k)=1:=b;rw[i] at b;revert b;cases jY a (pre Par.mx a a.length) l k<;>decide
 have f:qw a (pre Par.mx a a.length) l=false:=Bool.eq_false_iff.2 λh=>by rw[xC e.le h] at d;cases d
 unfold z9;rw[f,d];rfl
def q9G(a:List Par)(b gx:Nat->Int)(l:List Int)(k:Nat):zo a b gx l k=1\/zo a b gx l k=2\/zo a b gx l k=3:=by
 unfold zo;cases jY a b l k<;>cases jY a gx l k<;>decide
def Qm(la ha Z hb Y hc:Nat)(V qv bv:qhC)(a:List Par)(g:Int)(l:List Int)(w:qhy)(Q:ze la ha w V a)(R:qR Z hb w qv l)(hB:qG Y hc w bv (zC a))(P:YOk a g)(hx:∀x∈l,0<=x/\x<a.length)(hl:l.length<=1000) :qiw Ya 131 #[.agg #[V,g],qv,bv] w λe w'=>e=.returned (.int .i64 (z9 a l))/\w.gb w' none:=by
 obtain⟨yb,yc,rfl,e6,-⟩:=Q.cell;obtain⟨base,g5,rfl,e7,-⟩:=R.cell;have⟨A,U,hA,C,d,s⟩:=qT w (.cells #[.slice yb a.length yc,g] 24);have q0:=q8 s (o:=0) rfl;have q1:=q8 s (o:=1) rfl;have H:=qhw λ(W:qhy) (h:U.gb W none) (i:Nat) (hi:i<l.length)=>Jm la ha Z hb Y hc _ _ _ a g l i W (Q.kept (d.t h)) (R.kept (d.t h)) (hB.kept (d.t h)) P hx hl hi;have⟨HY,T,HA,v⟩:=zI P C hA d;obtain⟨f,r⟩:∃f,f=zo a (pre Par.mn a a.length) (pre Par.mx a a.length) l:=⟨_,rfl⟩;rw[<- r] at H;have G:=qhw r;clear Q R hB C hA d s hx P r;go_enter Tp.x131,Tryz.ntmps131;go_upto_region 1 with(fail);rw[<- HA,<- T];go_wp2;go_loopw [7,8] (λX N wr=>∃k:Nat,N=.int .i64 k/\k<=l.length/\U.gb wr none/\(∀j,j<k->f j≠1)/\((X=.int .i64 1/\∀j,j<k->f j=2)\/(X=.int .i64 3/\∃j,j<k/\f j=3))) (λ_ N _=>(l.length - qj7 N).toNat)
 case atStart=>exact⟨0,rfl,by omega,qi2 _ _,λj h=>by omega,.inl ⟨rfl,λj h=>by omega⟩⟩
 case round=>
  obtain⟨k,rfl,hk,B,p,n⟩:=hrel;have M:=qhw B;have e4:=B.cl q0;have d8:=B.cl q1;have HN:=qhw p;by_cases D:k<l.length
  ·have a8:(k:Int)<(l.length:Int):=by omega
   have I:=qhw (show f k=1\/f k=2\/f k=3 by rw[G];exact q9G _ _ _ _ _);have y:=qhw (H wr B k D);have F:=qhw (show f k=1->z9 a l=2 from λh=>q64 HY D (by rw[<- G];exact h));obtain⟨z,O⟩:∃z,z=f k:=⟨_,rfl⟩;rw[<- O] at y I F;have⟨S,q⟩:=qF O n;clear B p O n;rcases I with rfl | rfl | rfl
   ·rcases q with⟨rfl,b⟩ | ⟨rfl,b⟩;all_goals
     clear b;go_wp2_with (go_at_call 130;refine y.mono ?_;rintro e w3 ⟨rfl,c⟩;have u:=qhw c;clear c);go_ret;exact⟨by rw[F (by first | rfl | trivial)];rfl,(v.t M).t u⟩
   all_goals
    rcases q with⟨rfl,b⟩ | ⟨rfl,b⟩;all_goals
     have L:=qhw b;clear b;go_wp2_with (go_at_call 130;refine y.mono ?_;rintro e w3 ⟨rfl,c⟩;have u:=qhw c;clear c);go_roundw
     case rel=>
      refine⟨k+1,by simp,by omega,M.t u,λj h=>?_,?_⟩
      ·by_cases e:j=k
       ·rw[e,<- S];decide
       ·exact HN j (by omega)
      ·first
        | exact .inl ⟨rfl,λj h=>by
          by_cases e:j=k
          ·rw[e,<- S]
          ·exact L j (by omega)⟩
        | exact .inr ⟨rfl,k,by omega,S.symm⟩
        | exact .inr ⟨rfl,let ⟨j,h1,b⟩:=L.out;⟨j,by omega,b⟩⟩
     case measure=>simp[qj7];omega
  ·obtain rfl:k=l.length:=by omega
   have HS:=qhw (q8u HY (by rw[<- G];exact p));have q:=qhw n;clear B p n;rcases q with⟨rfl,b⟩ | ⟨rfl,b⟩;all_goals
    have L:=qhw b;clear b;go_wp2;go_ret
   ·exact⟨by rw[HS.1 (by rw[<- G];exact L) (by first | rfl | trivial)];rfl,v.t M⟩
   ·exact⟨by rw[HS.2 (by rw[<- G];exact L) (by first | rfl | trivial)];rfl,v.t M⟩
def q9v(o lb:Nat)(Q qv:qhC)(b:List Par)(a:Int)(l:List Int)(w:qhy)(z:ze o w.heap.size w Q b)(I:qR o w.heap.size w qv l)(q:YOk b a)(M:∀x∈l,0<=x/\x<b.length)(S:l.length<=1000) :qiw Ya 132 #[.agg #[Q,a],qv] w λe Y=>e=.returned (.bool (xm b a l))/\w.gb Y none:=by
 obtain⟨H,G,rfl,Z,-⟩:=z.cell;obtain⟨base,a9,rfl,a7,-⟩:=I.cell;have⟨A,n,U,r,d,j⟩:=qT w (.cells #[.slice H b.length G,a] 24);have h5:=q.len;have s:∀p∈b,0<=p.tall/\p.tall<=1000:=λp hp=>by have:=q.each p hp;omega
 have k:=qhw λ(W:qhy) (h:n.gb W none)=>q1e o w.heap.size _ _ b a l W (z.kept (d.t h)) (I.kept (d.t h)) M s S;have P:=qhw λ(W:qhy) (h:n.gb W none)=>yf o w.heap.size _ b a W ⟨_,rfl,z.kept (d.t h)⟩ (by omega);have D:=qhw λ(W:qhy) (h:n.gb W none) (R T:Nat) (O:qhC) (hB:qG R T W O (zC b))=>Qm o w.heap.size o w.heap.size R T _ _ O b a l W (z.kept (d.t h)) (I.kept (d.t h)) hB q M S;have g:=qhw (show ∀W,n.gb W none->W.cell? A=some (.slice H b.length G)/\W.cell? ⟨A,1,none⟩=some (.int .i64 a) from λW h=>⟨q8 (bk h j) rfl,q8 (bk h j) rfl⟩);have L:=qhw (show xm b a l=(decide (qK b l<=a) && (z9 b l == 1)) by
  unfold xm z9;cases h:qw b (pre Par.mx b b.length) l
  ·cases qw b (pre Par.mn b b.length) l<;>simp[K7]
  ·rw[xC q.le h];rfl)
 have⟨C,V,F⟩:=qY r U d;clear z I r U d j M q s;generalize qK b l=t at k L;generalize z9 b l=v at D L;by_cases N:t<=a
 ·go_enter Tp.x132,Tryz.ntmps132;go_upto_region 1 with(fail);rw[<- V,<- C];have c:=qhw (q9 n none);refine qr 11 (λW=>W.cell? A=some (.slice H b.length G)/\W.cell? ⟨A,1,none⟩=some (.int .i64 a)) (by kernel_rfl) (by kernel_rfl) (g _ c) (λhHeld=>?_);simp only[qi3,qi7,qii,qiB,qib,qij,qik,qiq,qin,qi9];refine tk 0 (h:=tk 1 (h:=tk 3 (h:=tk 4 (h:=?_))));try go_frame
  refine rdc 2 λK B=>?_;go_simp;go_at_call 108;refine(k _ c).mono ?_;rintro e X ⟨rfl,f⟩;replace c:=qhw (c.t f);clear f;refine B.out _ _ (g _ c) (λhHeld=>?_);refine tk 5 (h:=tk 6 (h:=tk 7 (h:=tk 8 (h:=tk 9 (h:=?_)))));try go_frame
  refine rdc 10 λK B=>?_;go_simp;go_at_call 89;refine(P _ c).mono ?_;rintro e w5 ⟨O,rfl,y,i⟩;replace c:=qhw (c.t y);have HB:=qhw i;obtain⟨bb,bc,rfl,-,-⟩:=i.cell;clear y i;refine B.out _ _ (g _ c) (λhHeld=>?_);try go_frame
  refine⟨by kernel_rfl,?_⟩;simp only[qig,qit];have c0:=hHeld.1;have c1:=hHeld.2;clear hHeld;go_wp2_with (go_at_call 131;refine(D _ c _ _ _ HB).mono ?_;rintro e w6 ⟨rfl,u⟩;have G6:=qhw u;clear u);go_ret;exact⟨by rw[L,decide_eq_true N];rfl,(F.t c).t G6⟩
 ·go_enter Tp.x132,Tryz.ntmps132;go_upto_region 1 with(fail);rw[<- V,<- C];have c:=qhw (q9 n none);refine qr 11 (λW=>W.cell? A=some (.slice H b.length G)/\W.cell? ⟨A,1,none⟩=some (.int .i64 a)) (by kernel_rfl) (by kernel_rfl) (g _ c) (λhHeld=>?_);simp only[qi3,qi7,qii,qiB,qib,qij,qik,qiq,qin,qi9];refine tk 0 (h:=tk 1 (h:=tk 3 (h:=tk 4 (h:=?_))));try go_frame
  refine rdc 2 λK B=>?_;go_simp;go_at_call 108;refine(k _ c).mono ?_;rintro e X ⟨rfl,f⟩;replace c:=qhw (c.t f);clear f;refine B.out _ _ (g _ c) (λhHeld=>?_);refine tk 5 (h:=tk 6 (h:=tku 7 (h:=tku 8 (h:=tku 9 (h:=tku 10 (h:=?_))))));try go_frame
  refine⟨by kernel_rfl,?_⟩;simp only[qig,qit];clear hHeld;go_wp2;go_ret;exact⟨by rw[L,decide_eq_false (by omega)];rfl,F.t c⟩
def qav{Bm Y Bp:Nat}{yb pb:Option qj5}{yc pc:Nat}{c:List Par}{a:Int}{l:List Int}(lo hi:Nat)(v:qhC)(L:List Int)(w:qhy)(U:qd lo hi w v L)(h:qa9 w Bm Y Bp yb pb yc pc c a l)(s:YOk c a)(hp:PIn c l)(hL:∀x∈L,0<=x/\x<c.length) :qiw Ya 127 #[v,.func (.func 128) #[] #[.pointer (some Bm),.pointer (some Y),.pointer (some Bp)]] w λe M=>∃N,e=.returned N/\w.gb M none/\qd w.heap.size M.heap.size M N (L.filter (onB c a l)):=by
 have⟨i0,T,R,Q,P⟩:=qk1 Tp.info3p;obtain⟨base,h9,rfl,e7,-⟩:=U.cell;have⟨HI,HA,A,z,HL⟩:=Zc U h s hp hL;clear U h s hp hL;go_enter Tp.x127,Tryz.ntmps127;go_wp2;go_loopw [5,10] (λov O wr=>∃k:Nat,O=.int .i64 k/\k<=L.length/\w.gb wr none/\wr.ownsRow w.heap.size 3 1 ov ((L.take k).filter (onB c a l)).length (((L.take k).filter (onB c a l)).map (qim .i64))) (λ_ O _=>(L.length - qj7 O).toNat)
 case atStart=>exact⟨0,rfl,by omega,qi2 _ _,qjE _ _ _ _⟩
 case round=>
  obtain⟨k,rfl,hk,q,F⟩:=hrel;obtain⟨oa,om,oc,rfl⟩:=zi F;have⟨X,G⟩:=qF q F;have e5:=q.size;by_cases p:k<L.length
  ·obtain⟨b1,c1,he,-,hc⟩:=(HI.kept q).cell;cases he;obtain⟨B,o,rfl,h8,g9,g8,y⟩:=hc (by intro e;rw[e] at p;simp at p);have S:=y k p;obtain⟨n,i⟩:∃n,L[k]?=some n:=⟨_,qhG p⟩;rw[i] at S;simp only[qi0] at S;have u:=HL.out n (qih i);have HT:=qhw (show L.take (k+1)=L.take k++[n] by rw[qja,i];rfl);have e8:(k:Int)<(L.length:Int):=by omega
   have D:=qhw (HA.kept q);clear q F hc y i;obtain⟨b,hb⟩:∃b,b=onB c a l n:=⟨_,rfl⟩;have H:=qhw hb;clear hb;cases b with
   | true=>
    go_upto_region 6 with(go_at_call 128;refine(q7A n wr D A z u).mono ?_;rintro e I ⟨rfl,g⟩;rw[<- H];have r:=qhw g;clear g);have C:=qhw (G.kept r (qnB _));have e6:=r.out.size;have g5:((L.take k).filter (onB c a l)).length<=k:=qi1 (qko _ _) (by simp;omega);have Z:=qhw (show(L.take (k+1)).filter (onB c a l)=(L.take k).filter (onB c a l)++[n] by rw[HT,qlF];simp[<- H.out]);clear S;go_wp2_with (at_builtin;(refine ql8 _ rfl _ _ 29 rfl w.heap.size 3 i0 _ 1 8 Tp.und29' T R Q P rfl (by decide) (.slice oa om oc) ((L.take k).filter (onB c a l)).length _ rfl (C.alloc _) ⟨I.heap.size,0,none⟩ 1 1 [.int .i64 n] rfl rfl (qjh (cs:=#[.int .i64 n]) (t:=3) (fr:=(0,0)) (qhH I _)) (by simp[qjF]) (by unfold qlc;omega) (by omega) (by simp;omega) ?_);intro N w7 d f _;obtain⟨g',b0,rfl⟩:=qme d;have V:=qhw d;have W:=qhw f;clear d f);go_roundw
    case rel=>
     refine⟨k+1,by simp,by omega,((X.t r).t (qhx _ _ none)).andThen W (λj e=>.inl (C.lt j e).1),?_⟩;rw[Z,qk0,qjm];exact V
    case measure=>simp[qj7];omega
   | false=>
    go_wp2_with (go_at_call 128;refine(q7A n wr D A z u).mono ?_;rintro e I ⟨rfl,g⟩;rw[<- H];have r:=qhw g;clear g);go_roundw
    case rel=>
     have hf:(L.take (k+1)).filter (onB c a l)=(L.take k).filter (onB c a l):=by rw[HT,qlF];simp[<- H.out]
     refine⟨k+1,by simp,by omega,X.t r,?_⟩;rw[hf];exact G.kept r (qnB _)
    case measure=>simp[qj7];omega
  ·obtain rfl:k=L.length:=by omega
   clear q F;go_wp2;go_ret;rw[qjt] at G;exact⟨_,rfl,X,(qd.own G (by have:=qko (onB c a l) L;omega)).mono (qhz _) (qhz _)⟩
def qgD(lo hi:Nat)(pv:qhC)(base:Option qj5)(c:Nat)(f:List Par)(a:Int)(l:List Int)(w:qhy)(hP:qn lo hi w pv f)(hI:qd lo hi w (.slice base l.length c) l)(H:l.length<=c)(b7:hi<=w.heap.size)(G:YOk f a)(hp:POk f a l) :qiw Ya 75 #[.agg #[pv,a],.slice base l.length c] w λe w'=>∃v,e=.returned (.tuple #[v,.int .i64 0])/\w.gb w' none/\qd w.heap.size w'.heap.size w' v ((zX f.length).filter (onB f a l)):=by
 have k6:∀(fn:Fn) (first c:Array qhC) (w:qhy),(Instr.makeFunc fn first c).run Ya w=.ok (.func fn first c) w:=λ_ _ _ _=>rfl;obtain⟨D,C,rfl,k0,-⟩:=hP.cell;obtain⟨A,w1,hA,F,h,s,q,-⟩:=zj w (.cells #[.slice D f.length C,a] 24) (.cells #[.slice base l.length c] 29);have V:=qhw (hI.kept h);have S:=qhw (hP.kept h);have⟨c3,HA,e4,c8⟩:=zI F hA h q;have q0:=q8 s (o:=0) rfl;have q1:=q8 s (o:=1) rfl;have Z:=q8 q (o:=0) rfl;have⟨HY,u⟩:=qF G hp;have y:=qhw (qi1 b7 h.size);clear hP hI G hp F hA h s q;go_enter Tp.x75,Tryz.ntmps75;go_upto_region 1 with(fail);rw[<- HA,<- c3];go_upto_region 2 with(go_at_call 81;refine(kG lo hi _ _ f a l _ S V y HY u).mono ?_;rintro e w2 ⟨rfl,Q⟩;have X:=qhw Q;clear Q);obtain⟨Y,p⟩:∃Y,Y=w2.heap.size:=⟨_,rfl⟩;obtain⟨k,j⟩:∃k,k=w2.alloc (.cells #[.slice D f.length C,a] 91):=⟨_,rfl⟩;have r:w2.gb k none:=by rw[j];exact qhx _ _ none
 have R:k.heap[Y]?=some (.cells #[.slice D f.length C,a] 91 (0,0)):=by rw[j,p];exact qhH _ _
 rw[<- p,<- j];clear q0 q1 Z;have e5:=qhw R;have d9:=qhw ((e4.t X).t r);have d:=qhw (X.t r);have Z:=q8 (bk d c8) (o:=0) rfl;have U:=qhw (V.kept d);have c9:=qhw (S.kept d);have h5:∀x∈l,0<=x/\x<5:=λx hx=>by have:=u.out.ok x hx;have:=HY.out.len;omega
 have H5:=qhw h5;clear r R j p h5;go_upto_region 5 with(go_at_call 123;refine(JE _ _ _ _ k U H5).mono ?_;rintro e g8 ⟨rfl,rfl⟩);obtain⟨M,hM⟩:∃M,M=k.heap.size:=⟨_,rfl⟩;obtain⟨B,i⟩:∃B,B=k.alloc (.cells #[.int .u8 (qW l:Nat)] 130):=⟨_,rfl⟩;rw[<- hM,<- i];have b:k.gb B none:=by rw[i];exact qhx _ _ none
 have I:B.heap[M]?=some (.cells #[.int .u8 (qW l:Nat)] 130 (0,0)):=by rw[i,hM];exact qhH _ _
 have g:=bk b e5;have d5:=qhw (show qa9 B M Y (A+1) D base C c f a l from⟨q8 I rfl,q8 g rfl,q8 g rfl,b.cl Z,
  (c9.kept b).mono (qix _) (qi1 y (d.t b).size),(U.kept b).mono (qix _) (qi1 y (d.t b).size),H⟩)
 have W:=qhw (d9.t b);have y0:=q8 g (o:=0) rfl;have y1:=q8 g (o:=1) rfl;have hn:f.length<=1000:=by have:=HY.out.len;omega
 have n:∀x∈zX f.length,0<=x/\x<f.length:=λx hx=>KD hx;have T:=qhw n;clear b I g hM i Z n;go_wp2_with (first
  | (go_at_call 100;refine(vp D f.length C a B hn).mono ?_;rintro e w5 ⟨v5,rfl,P,N⟩;have z:=qhw P;have d7:=qhw N;clear P N)
  | (go_at_call 127;refine(qav _ _ _ _ w5 d7 (d5.kept z) HY u.pin T).mono ?_;rintro e w6 ⟨v6,rfl,O,L⟩;have d8:=qhw ((W.t z).t O);have d6:=qhw (L.mono (W.t z).size (qhz _));clear O L))
 go_ret2;exact⟨v6,rfl,d8,d6⟩
def ZM(a:List Par)(b:Int)(l:List Int):List Int:=if zA a b l=0 then jB a (pre Par.mn a a.length) (pre Par.mx a a.length) l else[]
def xB(b:List Par)(a:Int)(l:List Int):Int:=if zA b a l=0 then z9 b l else 0
def Qo(b:List Par)(a:Int)(l:List Int):qhC:=if zA b a l=0 then jl b l else .tuple #[.agg #[.int .i64 0,.int .i64 0],(zA b a l)]
def onC(b:List Par)(a:Int)(l:List Int):List Int:=if zA b a l=0 then(zX b.length).filter (onB b a l) else[]
def q7a(pv qv:qhC)(a:List Par)(d:Int)(l:List Int)(w:qhy)(hP:ze 0 w.heap.size w pv a)(hI:qR 0 w.heap.size w qv l)(L:l.length<=1000)(M:∀b n c,qv=.slice b n c->n<=c) :qiw Ya 76 #[.agg #[pv,d],qv] w λe w'=>∃v,e=.returned (.tuple #[v,(zA a d l)])/\w.gb w' none/\qd 0 w'.heap.size w' v (ZM a d l):=by
 have⟨i0,e9,e6,e5,e4⟩:=qk1 Tp.info3p;obtain⟨yb,yc,rfl,n6,X⟩:=hP.cell;obtain⟨base,g8,rfl,n8,Y⟩:=hI.cell;have⟨A,S,hA,O,p,r⟩:=qT w (.cells #[.slice yb a.length yc,d] 24);have x:=λ(W:qhy) (h:S.gb W none)=>((hP.kept (p.t h)).mono (qhz _) (p.t h).size:ze 0 W.heap.size W (.slice yb a.length yc) a);have C:=λ(W:qhy) (h:S.gb W none)=>((hI.kept (p.t h)).mono (qhz _) (p.t h).size:qR 0 W.heap.size W (.slice base l.length g8) l);have I:=qhw (yy _ _ a d l S (x _ (qi2 _ _)) (C _ (qi2 _ _)) L M);have F:=qhw (show ∀W,S.gb W none->W.cell? A=some (.slice yb a.length yc)/\W.cell? ⟨A,1,none⟩=some (.int .i64 d) from λW h=>⟨q8 (bk h r) rfl,q8 (bk h r) rfl⟩);have q0:=q8 r (o:=0) rfl;have q1:=q8 r (o:=1) rfl;have⟨HW,HA,a9⟩:=qY O hA p;clear M;by_cases y:zA a d l=0;rotate_left
 ·have g6:(zA a d l == 0)=false:=by rw[beq_eq_false_iff_ne];exact y
  have H0:=qhw y;clear hP hI x C X Y O hA p r y;obtain⟨c,Q⟩:∃c,c=zA a d l:=⟨_,rfl⟩;rw[<- Q] at I g6 ⊢;have p4:=qhw Q;clear Q;go_enter Tp.x76,Tryz.ntmps76;go_upto_region 1 with(fail);rw[<- HA,<- HW];go_wp2_with (go_at_call 50;refine I.mono ?_;rintro e w2 ⟨rfl,q⟩;have H:=qhw (a9.t q);have m4:=qhw q;clear q);go_ret2;exact⟨_,rfl,H,by rw[show ZM a d l=[] from if_neg H0.out];exact qd.nil _ _ _⟩
 have⟨hy,hp⟩:=Qu y;rw[y] at I ⊢;have H0:=qhw y;have h5:=hy.len;have HY:=qhw hy;have HX:=qhw hp.ok;have h8:=qhw λ(W:qhy) (h:S.gb W none)=>yf 0 _ _ a d W ⟨_,rfl,x W h⟩ (by omega);have b6:=qhw λ(W:qhy) (h:S.gb W none) (lo hi:Nat) (bv:qhC) (hB:qG lo hi W bv (zC a)) (i:Nat) (e8:i<l.length)=>Jm 0 _ 0 _ lo hi _ _ bv a d l i W (x W h) (C W h) hB hy hp.ok L e8;have HL:=qhw (show ZM a d l=jB a (pre Par.mn a a.length) (pre Par.mx a a.length) l from if_pos y);obtain⟨N,B⟩:∃N,N=jB a (pre Par.mn a a.length) (pre Par.mx a a.length) l:=⟨_,rfl⟩;obtain⟨cr,P⟩:∃cr,cr=zo a (pre Par.mn a a.length) (pre Par.mx a a.length) l:=⟨_,rfl⟩;have HS:=qhw (show ∀k,k<l.length->N.take (k+1)=N.take k++[cr k] from λk hk=>by rw[B,P];exact Yu a _ _ l k hk);have b7:=qhw (show N.length=l.length by rw[B];exact q06 _ _ _ _);rw[<- B] at HL;rw[<- P] at b6;clear hP hI x C X Y O hA p r y hy hp B P;go_enter Tp.x76,Tryz.ntmps76;go_upto_region 1 with(fail);rw[<- HA,<- HW];go_upto_region 5 with(go_at_call 50;refine I.mono ?_;rintro e w2 ⟨rfl,q⟩;have H:=qhw q;clear q);go_wp2;go_loopw [7,8] (λov iv wr=>∃k:Nat,iv=.int .i64 k/\k<=l.length/\w2.gb wr none/\wr.ownsRow w2.heap.size 3 1 ov k ((N.take k).map (qim .i64))) (λ_ iv _=>(l.length - qj7 iv).toNat)
 case atStart=>exact⟨0,rfl,by omega,qi2 _ _,by simpa using qjE _ _ _ _⟩
 case round=>
  obtain⟨k,rfl,hk,hG,hO⟩:=hrel;obtain⟨oa,om,oc,rfl⟩:=zi hO;have⟨HG,HO⟩:=qF hG hO;have n7:=hG.size;by_cases T:k<l.length
  ·have k9:(k:Int)<(l.length:Int):=by omega
   have a8:=qhw (HS k T);have s:=qhw λ(W:qhy) (h:wr.gb W none)=>(H.t hG).t h;clear hG hO;go_upto_region 8 with(fail);have f:=qhw (q9 wr none);refine qr 8 (λW=>W.cell? A=some (.slice yb a.length yc)/\W.cell? ⟨A,1,none⟩=some (.int .i64 d)) (by kernel_rfl) (by kernel_rfl) (F _ (s _ f)) (λhHeld=>?_);simp only[qi3,qi7,qii,qiB,qib,qij,qik,qiq,qin,qi9];refine tk 0 (h:=tk 1 (h:=tk 2 (h:=tk 3 (h:=tk 5 (h:=?_)))));try go_frame
   refine rdc 4 λK Z=>?_;go_simp;go_at_call 89;refine(h8 _ (s _ f)).mono ?_;rintro e w5 ⟨bv,rfl,V,R⟩;replace f:=qhw (f.t V);have HB:=qhw R;obtain⟨bb,bc,rfl,-,-⟩:=R.cell;clear V R;refine Z.out _ _ (F _ (s _ f)) (λhHeld=>?_);refine rdc 6 λK Z=>?_;go_simp;go_at_call 130;refine(b6 _ (s _ f) _ _ _ HB k T).mono ?_;rintro e w6 ⟨rfl,U⟩;generalize cr k=z at a8;replace f:=qhw (f.t U);clear U;refine Z.out _ _ (F _ (s _ f)) (λhHeld=>?_);refine rdc 7 λK Z=>?_;go_simp;have HX:=qhw (yP f 3 #[z]);replace f:=qhw HX.1;have HD:=qhw HX.2.1;have b0:=qhw HX.2.2;clear HX;refine Z.out _ _ (F _ (s _ f)) (λhHeld=>?_);try go_frame
   refine⟨by kernel_rfl,?_⟩;simp only[qig,qit];clear hHeld;have G:=qhw (J5 HO f);have g5:=b0.out;generalize hD:w6.heap.size=D at f HD G ⊢;rw[hD] at g5;clear hD b0;generalize w6.alloc (.cells #[z] 3)=w7 at f HD G ⊢;go_wp2_with (at_builtin;(refine ql8 _ rfl _ _ 29 rfl w2.heap.size 3 i0 _ 1 8 Tp.und29' e9 e6 e5 e4 rfl (by decide) (.slice oa om oc) k _ rfl G ⟨D,0,none⟩ 1 1 [.int .i64 z] rfl rfl (qjh (cs:=#[z]) (t:=3) (fr:=(0,0)) HD) (by simp[qjF]) (by unfold qlc;omega) (by omega) (by have:=f.out.size;omega) ?_);intro v' w8 g u _;obtain⟨g',l7,rfl⟩:=qme g;have h9:=qhw g;have k0:=qhw u;clear g u);go_roundw
   case rel=>
    refine⟨k+1,by simp,by omega,(HG.t f).andThen k0 (λj e=>.inl (G.lt j e).1),?_⟩;rw[a8,qk0];exact h9
   case measure=>simp[qj7];omega
  ·obtain rfl:k=l.length:=by omega
   clear hG hO;go_wp2;go_ret2;have y:=HO.out;rw[show N.take l.length=N from qlx (by rw[b7];exact qhz _)] at y;exact⟨_,rfl,(a9.t H).t HG,by rw[HL];exact(qd.own y (by rw[b7];omega)).mono (qix _) (qhz _)⟩
def q45(pv qv:qhC)(d:List Par)(a:Int)(l:List Int)(w:qhy)(P:ze 0 w.heap.size w pv d)(Q:qR 0 w.heap.size w qv l)(r:l.length<=1000)(s:∀b n c,qv=.slice b n c->n<=c) :qiw Ya 77 #[.agg #[pv,a],qv] w λe w'=>e=.returned (.tuple #[(xB d a l),(zA d a l)])/\w.gb w' none:=by
 obtain⟨N,M,rfl,b9,G⟩:=P.cell;obtain⟨base,V,rfl,c3,H⟩:=Q.cell;have⟨A,C,U,v,f,i⟩:=qT w (.cells #[.slice N d.length M,a] 24);have j:=λ(W:qhy) (h:C.gb W none)=>((P.kept (f.t h)).mono (qhz _) (f.t h).size:ze 0 W.heap.size W (.slice N d.length M) d);have p:=λ(W:qhy) (h:C.gb W none)=>((Q.kept (f.t h)).mono (qhz _) (f.t h).size:qR 0 W.heap.size W (.slice base l.length V) l);have q:=qhw (yy _ _ d a l C (j _ (qi2 _ _)) (p _ (qi2 _ _)) r s);have I:=qhw (show ∀W,C.gb W none->W.cell? A=some (.slice N d.length M)/\W.cell? ⟨A,1,none⟩=some (.int .i64 a) from λW h=>⟨q8 (bk h i) rfl,q8 (bk h i) rfl⟩);have q0:=q8 i (o:=0) rfl;have q1:=q8 i (o:=1) rfl;have⟨HW,HA,L⟩:=qY v U f;clear s;by_cases u:zA d a l=0;rotate_left
 ·have T:(zA d a l == 0)=false:=by rw[beq_eq_false_iff_ne];exact u
  have H0:=qhw u;clear P Q j p G H v U f i u;obtain⟨c,x⟩:∃c,c=zA d a l:=⟨_,rfl⟩;rw[<- x] at q T ⊢;have d6:=qhw x;clear x;go_enter Tp.x77,Tryz.ntmps77;go_upto_region 1 with(fail);rw[<- HA,<- HW];go_wp2_with (go_at_call 50;refine q.mono ?_;rintro e R ⟨rfl,g⟩;have B:=qhw (L.t g);have b0:=qhw g;clear g);go_ret2;exact⟨by rw[show xB d a l=0 from if_neg H0.out];rfl,B⟩
 have⟨O,S⟩:=Qu u;rw[u] at q ⊢;have H0:=qhw u;have h5:=O.len;have HY:=qhw O;have HX:=qhw S.ok;have Y:=qhw λ(W:qhy) (h:C.gb W none)=>yf 0 _ _ d a W ⟨_,rfl,j W h⟩ (by omega);have Z:=qhw λ(W:qhy) (h:C.gb W none) (lo hi:Nat) (X:qhC) (hB:qG lo hi W X (zC d))=>Qm 0 _ 0 _ lo hi _ _ X d a l W (j W h) (p W h) hB O S.ok r;have HL:=qhw (show xB d a l=z9 d l from if_pos u);clear P Q j p G H v U f i u O S;go_enter Tp.x77,Tryz.ntmps77;go_upto_region 1 with(fail);rw[<- HA,<- HW];go_upto_region 4 with(go_at_call 50;refine q.mono ?_;rintro e R ⟨rfl,g⟩;have B:=qhw g;clear g);have z:=qhw (q9 R none);have k:=qhw λ(W:qhy) (h:R.gb W none)=>B.t h;refine qr 4 (λW=>W.cell? A=some (.slice N d.length M)/\W.cell? ⟨A,1,none⟩=some (.int .i64 a)) (by kernel_rfl) (by kernel_rfl) (I _ (k _ z)) (λhHeld=>?_);simp only[qi3,qi7,qii,qiB,qib,qij,qik,qiq,qin,qi9];refine tk 0 (h:=tk 1 (h:=tk 2 (h:=?_)));try go_frame
 refine rdc 3 λK hK=>?_;go_simp;go_at_call 89;refine(Y _ (k _ z)).mono ?_;rintro e w5 ⟨X,rfl,F,y⟩;replace z:=qhw (z.t F);have HB:=qhw y;obtain⟨bb,bc,rfl,-,-⟩:=y.cell;clear F y;refine hK.out _ _ (I _ (k _ z)) (λhHeld=>?_);try go_frame
 refine⟨by kernel_rfl,?_⟩;simp only[qig,qit];clear hHeld;go_wp2_with (go_at_call 131;refine(Z _ (k _ z) _ _ _ HB).mono ?_;rintro e w6 ⟨rfl,D⟩;have G6:=qhw D;clear D);go_ret2;exact⟨by rw[HL];rfl,(L.t (k _ z)).t G6⟩
def q9F(n qv:qhC)(d:List Par)(a:Int)(l:List Int)(w:qhy)(j:qn 0 w.heap.size w n d)(k:qd 0 w.heap.size w qv l)(g:l.length<=1000) :qiw Ya 73 #[.agg #[n,a],qv] w λe i=>∃v,e=.returned (.tuple #[v,(zA d a l)])/\w.gb i none/\qd 0 i.heap.size i v (ZM d a l):=by
 by_cases f:zA d a l=0
 ·have⟨x,y⟩:=Qu f;refine(qcz 0 _ n qv d a l w j k (qhz _) x y).mono ?_;rintro e i ⟨v,rfl,A,B⟩;exact⟨v,by rw[f],A,by unfold ZM;rw[if_pos f];exact B.mono (qix _) (qhz _)⟩
 ·have D:=qhw (show ZM d a l=[] from if_neg f);obtain⟨s,r,rfl,u,-⟩:=j.cell;obtain⟨base,C,rfl,z,-⟩:=k.cell;have b:=qhx w (.cells #[.slice s d.length r,a] 24) none;have q:=qhw (J7 0 w.heap.size _ _ d a l _ (j.kept b) (k.kept b) b.size g);have F:=qhw b;have o:(zA d a l == 0)=false:=by rw[beq_eq_false_iff_ne];exact f
  generalize zA d a l=c at q o ⊢;clear b j k f;go_enter Tp.x73,Tryz.ntmps73;go_wp2_with (go_at_call 81;refine q.mono ?_;rintro e M ⟨L,G,I,H,rfl,h,-⟩;have p:=qhw (F.t h);clear h);go_ret2;exact⟨_,rfl,p.t (qhx _ _ none),by rw[D];exact qd.nil _ _ _⟩
def q65(k qv:qhC)(b:List Par)(a:Int)(l:List Int)(w:qhy)(i:qn 0 w.heap.size w k b)(j:qd 0 w.heap.size w qv l)(g:l.length<=1000) :qiw Ya 37 #[.agg #[k,a],qv] w λe s=>e=.returned (.tuple #[(xB b a l),(zA b a l)])/\w.gb s none:=by
 by_cases f:zA b a l=0
 ·have⟨v,x⟩:=Qu f;rw[f,show xB b a l=z9 b l from if_pos f];exact q1m 0 _ k qv b a l w i j (qhz _) v x
 ·rw[show xB b a l=0 from if_neg f];obtain⟨r,q,rfl,u,-⟩:=i.cell;obtain⟨base,z,rfl,y,-⟩:=j.cell;have d:=qhx w (.cells #[.slice r b.length q,a] 24) none;have p:=qhw (J7 0 w.heap.size _ _ b a l _ (i.kept d) (j.kept d) d.size g);have A:=qhw d;have n:(zA b a l == 0)=false:=by rw[beq_eq_false_iff_ne];exact f
  generalize zA b a l=c at p n ⊢;clear d i j f;go_enter Tp.x37,Tryz.ntmps37;go_wp2_with (go_at_call 81;refine p.mono ?_;rintro e G ⟨F,B,D,C,rfl,h,-⟩;have o:=qhw (A.t h);clear h);go_ret2;exact⟨rfl,o.t (qhx _ _ none)⟩
def q8B(q qv:qhC)(b:List Par)(a:Int)(l:List Int)(w:qhy)(k:qn 0 w.heap.size w q b)(n:qd 0 w.heap.size w qv l)(h:l.length<=1000) :qiw Ya 36 #[.agg #[q,a],qv] w λe F=>e=.returned (Qo b a l)/\w.gb F none:=by
 by_cases i:zA b a l=0
 ·have⟨H,I⟩:=Qu i;rw[show Qo b a l=jl b l from if_pos i];exact q1u 0 _ q qv b a l w k n (qhz _) H I
 ·rw[show Qo b a l=_ from if_neg i];obtain⟨y,x,rfl,G,-⟩:=k.cell;obtain⟨base,M,rfl,L,-⟩:=n.cell;have d:=(qhx w (.cells #[.slice y b.length x,a] 24) none).t (qhx _ (.cells #[.int .i64 0,.int .i64 0] 26) none);have s:=qhH (w.alloc (.cells #[.slice y b.length x,a] 24)) (.cells #[.int .i64 0,.int .i64 0] 26);rw[qi6] at s;have N:=qhw s;have z:=qhw (J7 0 w.heap.size _ _ b a l _ (k.kept d) (n.kept d) d.size h);have O:=qhw d;have r:(zA b a l == 0)=false:=by rw[beq_eq_false_iff_ne];exact i
  generalize zA b a l=c at z r ⊢;clear d k n i s;go_enter Tp.x36,Tryz.ntmps36;go_wp2_with (go_at_call 81;refine z.mono ?_;rintro e R ⟨D,A,C,B,rfl,g,-⟩;have f:=qhw (qp (p:=.cells #[.slice D A C,B] 91) (bk g N));have T:=q8 f (o:=0) rfl;have S:=q8 f (o:=1) rfl;have Q:=qj (o:=0) f;have P:=qj (o:=1) f;have u:=qhw (O.t g);clear g);refine qjw (v:=.tuple #[.agg #[.int .i64 0,.int .i64 0],c]) ?_ rfl ⟨rfl,(u.t (qhx _ _ none)).andThen ((qf _ _ _ _).t (qf _ _ _ _)) (λj e=>by cases e;left;omega)⟩;rw[qlv rfl];go_simp
def qfE(r qv:qhC)(f:List Par)(a:Int)(l:List Int)(w:qhy)(q:qn 0 w.heap.size w r f)(k:qd 0 w.heap.size w qv l)(i:l.length<=1000)(j:∀b n c,qv=.slice b n c->n<=c) :qiw Ya 75 #[.agg #[r,a],qv] w λe p=>∃v,e=.returned (.tuple #[v,(zA f a l)])/\w.gb p none/\qd 0 p.heap.size p v (onC f a l):=by
 by_cases h:zA f a l=0
 ·have⟨C,D⟩:=Qu h;obtain⟨base,g,rfl,s,-⟩:=k.cell;refine(qgD 0 _ r base g f a l w q k (j _ _ _ rfl) (qhz _) C D).mono ?_;rintro e p ⟨v,rfl,F,G⟩;exact⟨v,by rw[h],F,by unfold onC;rw[if_pos h];exact G.mono (qix _) (qhz _)⟩
 ·have H:=qhw (show onC f a l=[] from if_neg h);obtain⟨A,z,rfl,B,-⟩:=q.cell;obtain⟨base,g,rfl,s,-⟩:=k.cell;have d:=(qhx w (.cells #[.slice A f.length z,a] 24) none).t (qhx _ (.cells #[.slice base l.length g] 29) none);have y:=qhw (J7 0 w.heap.size _ _ f a l _ (q.kept d) (k.kept d) d.size i);have I:=qhw d;have u:(zA f a l == 0)=false:=by rw[beq_eq_false_iff_ne];exact h
  generalize zA f a l=c at y u ⊢;clear d q k h;go_enter Tp.x75,Tryz.ntmps75;go_wp2_with (go_at_call 81;refine y.mono ?_;rintro e P ⟨O,L,N,M,rfl,o,-⟩;have x:=qhw (I.t o);clear o);go_ret2;exact⟨_,rfl,x.t (qhx _ _ none),by rw[H];exact qd.nil _ _ _⟩
def qh4{f g:Nat}{w:qhy}{d:qj5}{c:Nat}{l:List Int}(h:qR f g w (.slice (some d) l.length c) l):∀j u,(l.map (qim .i64))[j]?=some u->w.cell? (d.add j)=some u:=λj u a=>by
 obtain⟨_,_,e,-,i⟩:=h;cases e;rw[qjA] at a;cases hj:l[j]? with
 | none=>rw[hj] at a;cases a
 | some x=>
  rw[hj] at a;cases a;have b:=(qic.1 hj).1;obtain⟨B,o,e,-,-,-,k⟩:=i (by rintro rfl;simp at b);cases e;have:=k j b;rw[hj] at this;exact jI this
def Ql{d:Array qjx}{o:qjx}{a:Act}{w:qhy}{K:Act->qhy->Prop}{Q:Exit->Act->qhy->Prop}{E:Prop}(s x:qj0){F I L g n:Nat}{p:Option qj5}{l:List Int}(C:qR F I w (.slice p l.length n) l)(B:w.heap[g]?=some (.cells #[] 3 (0,0)))(N:L<=g)(S:l.length<=1000)(h:∀r q k,k.ownsRow L 3 1 (.slice r l.length q) l.length (l.map (qim .i64))->w.gb k (some g)->K (a.put o.dst (.slice r l.length q)) k)(i:qiy o (qjG d a.tmps)=true:=by kernel_rfl)(ho:o.op=.call { callee:=.builtin .append,args:=#[s,x],argTypes:=#[29,29] }:=by rfl)(hs:a.eval s=.slice (some g) 0 0:=by rfl)(hx:a.eval x=.slice p l.length n:=by rfl) :if qiy o (qjG d a.tmps)=true then Oper.wp Ya o a w K Q else E:=by
 have⟨G,f,y,v,t⟩:=qk1 Tp.info3p;have b:w.ownsRow L 3 1 (.slice (some g) 0 0) 0 []:=⟨rfl,.inr ⟨g,0,#[],rfl,N,B,qhz _,by decide,rfl,rfl⟩⟩;have M:=(qhB.1 B).1;rcases p with _ | R
 ·obtain rfl:l=[]:=qiG λH=>by obtain⟨_,_,e,-,j⟩:=C;cases e;have⟨_,_,e,_⟩:=j H;cases e
  rw[if_pos i];unfold Oper.wp ql0;simp only[ho,resolve,invoke,builtin,qjz,qn8,qjv,qn1,qle,qna,hs,hx,qi7,run_append_nil Tp.und29' f];exact h _ _ _ b (qi2 _ _)
 ·refine QM i s x 29 ho L 3 G _ 1 8 Tp.und29' f y v t rfl (by decide) _ 0 [] hs b R l.length n (l.map (qim .i64)) hx (by simp) (qh4 C) (by intro u A;simp at A;obtain⟨x,_,rfl⟩:=A;rfl) (by unfold qlc;omega) (by omega) (by omega) λD k j O=>?_;obtain⟨r,q,rfl⟩:∃a c,D=.slice a l.length c:=by
   rcases j.2 with⟨rfl,T⟩ | ⟨g,z,P,rfl,_⟩
   ·exact⟨none,0,by rw[show l.length=0 by omega]⟩
   ·exact⟨_,z,by rw[qib]⟩
  rw[qib,qin] at j;exact h _ _ _ j O
def JA{b:Array qjx}{o:qjx}{a:Act}{w:qhy}{K:Act->qhy->Prop}{Q:Exit->Act->qhy->Prop}{E:Prop}(s x:qj0){L G n i:Nat}{j:Option qj5}{f:List qhC}{p:Int}(d:w.ownsRow L 3 1 (.slice j n i) n f)(z:w.heap[G]?=some (.cells #[p] 3 (0,0)))(C:n<=1000)(y:L<=w.heap.size)(h:∀g c e,e.ownsRow L 3 1 (.slice (some ⟨g,0,none⟩) (n+1) c) (n+1) (f++[.int .i64 p])->w.gb e (qiH j n i).ownBlock->K (a.put o.dst (.slice (some ⟨g,0,none⟩) (n+1) c)) e)(t:qiy o (qjG b a.tmps)=true:=by kernel_rfl)(ho:o.op=.call { callee:=.builtin .append,args:=#[s,x],argTypes:=#[29,29] }:=by rfl)(hs:a.eval s=.slice j n i:=by rfl)(hx:a.eval x=.slice (some G) 1 1:=by rfl) :if qiy o (qjG b a.tmps)=true then Oper.wp Ya o a w K Q else E:=by
 have⟨v,r,q,l,k⟩:=qk1 Tp.info3p;refine QM t s x 29 ho L 3 v _ 1 8 Tp.und29' r q l k rfl (by decide) _ n f hs d ⟨G,0,none⟩ 1 1 [.int .i64 p] hx rfl (qjh z) (by simp[qjF]) (by unfold qlc;omega) (by omega) y λB e u A=>?_;obtain⟨g,c,rfl⟩:=qme u;exact h _ _ _ u A
def qe1(pv qv:qhC)(s:List Par)(i:Int)(l:List Int)(w:qhy)(hP:ze 0 w.heap.size w pv s)(hI:qR 0 w.heap.size w qv l)(c8:l.length<=1000)(X:∀b n c,qv=.slice b n c->n<=c) :qiw Ya 79 #[.agg #[pv,i],qv] w λe w'=>∃v,e=.returned (.tuple #[v,(zA s i l)])/\w.gb w' none/\qd 0 w'.heap.size w' v (onC s i l):=by
 have⟨i0,k8,k5,k0,h9⟩:=qk1 Tp.info3p;obtain⟨yb,yc,rfl,q7,c9⟩:=hP.cell;obtain⟨base,l9,rfl,r6,d5⟩:=hI.cell;have⟨A,V,hA,Y,D,L⟩:=qT w (.cells #[.slice yb s.length yc,i] 24);have O:=λ(W:qhy) (h:V.gb W none)=>((hP.kept (D.t h)).mono (qhz _) (D.t h).size:ze 0 W.heap.size W (.slice yb s.length yc) s);have P:=λ(W:qhy) (h:V.gb W none)=>((hI.kept (D.t h)).mono (qhz _) (D.t h).size:qR 0 W.heap.size W (.slice base l.length l9) l);have U:=qhw (yy _ _ s i l V (O _ (qi2 _ _)) (P _ (qi2 _ _)) c8 X);have u:=qhw (show ∀W,V.gb W none->W.cell? A=some (.slice yb s.length yc)/\W.cell? ⟨A,1,none⟩=some (.int .i64 i) from λW h=>⟨q8 (bk h L) rfl,q8 (bk h L) rfl⟩);have q0:=q8 L (o:=0) rfl;have q1:=q8 L (o:=1) rfl;have⟨HW,HA,e4⟩:=qY Y hA D;clear X;by_cases Q:zA s i l=0;rotate_left
 ·have l4:(zA s i l == 0)=false:=by rw[beq_eq_false_iff_ne];exact Q
  have H0:=qhw Q;clear hP hI O P c9 d5 Y hA D L Q;obtain⟨c,Z⟩:∃c,c=zA s i l:=⟨_,rfl⟩;rw[<- Z] at U l4 ⊢;have r9:=qhw Z;clear Z;go_enter Tp.x79,Tryz.ntmps79;go_upto_region 1 with(fail);rw[<- HA.out,<- HW.out];go_wp2_with (go_at_call 50;refine U.out.mono ?_;rintro e w2 ⟨rfl,I⟩;have S:=qhw (e4.out.t I);have p4:=qhw I;clear I);go_ret2;exact⟨_,rfl,S.out,by rw[show onC s i l=[] from if_neg H0.out];exact qd.nil _ _ _⟩
 have⟨hy,hp⟩:=Qu Q;rw[Q] at U ⊢;have H0:=qhw Q;have h5:=hy.len;have HY:=qhw hy;have y:=qhw hp.ok;have r7:=qhw λ(W:qhy) (h:V.gb W none)=>yf 0 _ _ s i W ⟨_,rfl,O W h⟩ (by omega);have HL:=qhw (show onC s i l=(zX s.length).filter (onB s i l) from if_pos Q);have N:=qhw λ(W:qhy) (h:V.gb W none) (k:Nat) (hk:k<s.length) (v:qhC) (hv:qR 0 W.heap.size W v (l++[(k:Int)]))=>q9v 0 0 _ v s i (l++[(k:Int)]) W (O W h) hv hy (λx hx=>by
  rcases qkn.1 hx with hx | hx
  ·exact hp.ok x hx
  ·rw[qkv] at hx;omega) (by have:=hp.len;simp;omega)
 have d9:=qhw λ(W:qhy) (h:V.gb W none) (k:Nat)=>KY 0 _ _ l k W (P W h);have a9:=qhw P;have m5:=qhw hp.len;have m3:=qhw (show ∀k:Nat,onB s i l k=(decide ((k:Int)∉l) && xm s i (l++[(k:Int)])) from λk=>rfl);obtain⟨F,hF⟩:∃F,F=λk=>((zX s.length).take k).filter (onB s i l):=⟨_,rfl⟩;have e5:=qhw (show F 0=[] by rw[hF];rfl);have m8:=qhw (show ∀k,k<s.length->F (k+1)=F k++(if onB s i l k=true then[(k:Int)] else[]) from λk hk=>by
  rw[hF];simp only;rw[qja,qlF,show(zX s.length)[k]?=some (k:Int) by unfold zX;rw[qjA,qll hk];rfl];simp only[Option.toList_some,List.filter_cons,List.filter_nil])
 have m9:=qhw (show F s.length=onC s i l by rw[hF,HL.out];simp only;rw[qlx (by simp[zX])]);clear hP hI O P c9 d5 Y hA D L Q hy hp hF;go_enter Tp.x79,Tryz.ntmps79;go_upto_region 1 with(fail);rw[<- HA.out,<- HW.out];go_upto_region 5 with(go_at_call 50;refine U.out.mono ?_;rintro e w2 ⟨rfl,I⟩;have S:=qhw I;clear I);go_wp2;go_loopw [7,8] (λov iv wr=>∃k:Nat,iv=.int .i64 k/\k<=s.length/\w2.gb wr none/\wr.ownsRow w2.heap.size 3 1 ov (F k).length ((F k).map (qim .i64))/\(F k).length<=k) (λ_ iv _=>(s.length - qj7 iv).toNat)
 case atStart=>exact⟨0,rfl,by omega,qi2 _ _,by rw[e5.out];simpa using qjE _ _ _ _,by rw[e5.out];exact qhz _⟩
 case round=>
  obtain⟨k,rfl,hk,hG,hO,l6⟩:=hrel;obtain⟨oa,om,oc,rfl⟩:=zi hO;have q:=qhw λ(W:qhy) (h:wr.gb W none)=>(S.out.t hG).t h;have⟨HG,HO⟩:=qF hG hO;have p9:=(u.out wr (S.out.t hG)).1;have r4:=hG.size;clear hG hO;by_cases c3:k<s.length
  ·have n7:(k:Int)<(s.length:Int):=by omega
   have HE:=qhw (m8.out k c3);have M:=qhw (m3.out k);have N:=qhw λ(W:qhy) (h:V.gb W none)=>N.out W h k c3;have r5:=m5.out;generalize xm s i (l++[(k:Int)])=fb at N M;generalize k6:onB s i l k=ob at HE M;clear k6;go_upto_region 8 with(fail);go_cut [35] from 22 to 35 (λg9 wx=>g9=.bool ob/\wr.gb wx none)
   case first=>
    have f:=qhw (q9 wr none);by_cases hm:(k:Int)∈l
    ·have R:=qhw hm;have a8:=qhw (show decide ((k:Int)∈l)=true from decide_eq_true hm);clear hm;refine qr 12 (λW=>W.cell? A=some (.slice yb s.length yc)/\W.cell? ⟨A,1,none⟩=some (.int .i64 i)) (by kernel_rfl) (by kernel_rfl) (u.out _ (q.out _ f.out)) (λhHeld=>?_);simp only[qi3,qi7,qii,qiB,qib,qij,qik,qiq,qin,qi9];refine tk 0 (h:=tk 1 (h:=?_));try go_frame
     refine rdc 2 λK r=>?_;go_simp;go_at_call 107;refine(d9.out _ (q.out _ f.out) k).mono ?_;rintro e w3 ⟨rfl,rfl⟩;rw[a8.out];refine r.out _ _ (u.out _ (q.out _ f.out)) (λhHeld=>?_);clear r K;try go_frame
     refine tk 3 (h:=tk 4 (h:=tku 5 (h:=tku 6 (h:=tku 7 (h:=tku 8 (h:=tku 9 (h:=tku 10 (h:=tku 11 (h:=?_)))))))));try go_frame
     refine⟨by kernel_rfl,?_⟩;simp only[qig,qit];clear hHeld;go_wp2;go_meet;exact⟨by rw[M.out,decide_eq_false (by simpa using R.out)];rfl,f.out⟩
    ·have R:=qhw hm;have a8:=qhw (show decide ((k:Int)∈l)=false from decide_eq_false hm);clear hm;refine qr 12 (λW=>W.cell? A=some (.slice yb s.length yc)/\W.cell? ⟨A,1,none⟩=some (.int .i64 i)) (by kernel_rfl) (by kernel_rfl) (u.out _ (q.out _ f.out)) (λhHeld=>?_);simp only[qi3,qi7,qii,qiB,qib,qij,qik,qiq,qin,qi9];refine tk 0 (h:=tk 1 (h:=?_));try go_frame
     refine rdc 2 λK r=>?_;go_simp;go_at_call 107;refine(d9.out _ (q.out _ f.out) k).mono ?_;rintro e w3 ⟨rfl,rfl⟩;rw[a8.out];refine r.out _ _ (u.out _ (q.out _ f.out)) (λhHeld=>?_);clear r K;try go_frame
     refine tk 3 (h:=tk 4 (h:=tk 5 (h:=tk 7 (h:=tk 9 (h:=?_)))));try go_frame
     refine rdy [6,10] ?_;refine cns 6 (λK r=>?_) ?_
     ·skip;go_simp;have y:=qhw (show wr.gb ((wr.alloc (.cells #[] 3)).drew) none/\((wr.alloc (.cells #[] 3)).drew).heap[wr.heap.size]?=some (.cells #[] 3 (0,0))/\wr.heap.size<=wr.heap.size from yP f.out 3 _);generalize (wr.alloc (.cells #[] 3)).drew=WF at y ⊢;replace f:=qhw y.out.1;have T:=qhw y.out.2.1;have G:=qhw y.out.2.2;clear y;refine r.out _ _ (u.out _ (q.out _ f.out)) (λhHeld=>?_);clear r K;try go_frame
      refine rdy [8,10] ?_;refine cns 8 (λK r=>?_) ?_
      ·skip;refine Ql (.tmp 28) (.tmp 29) (a9.out _ (q.out _ f.out)) T.out G.out (by omega) λvb vc WO d a=>?_;have z:=qhw d;replace f:=qhw (f.out.andThen a (λj e=>.inl (by cases e;exact G.out)));clear d a;refine r.out _ _ (u.out _ (q.out _ f.out)) (λhHeld=>?_);clear r K;try go_frame
       refine rdc 10 λK r=>?_;go_simp;have y:=qhw (show wr.gb (WO.alloc (.cells #[.int .i64 k] 3)) none/\(WO.alloc (.cells #[.int .i64 k] 3)).heap[WO.heap.size]?=some (.cells #[.int .i64 k] 3 (0,0))/\wr.heap.size<=WO.heap.size from yP f.out 3 _);replace z:=qhw (z.out.alloc (.cells #[.int .i64 k] 3));generalize WO.alloc (.cells #[.int .i64 k] 3)=WT at y z ⊢;replace f:=qhw y.out.1;have H:=qhw y.out.2.1;clear y;refine r.out _ _ (u.out _ (q.out _ f.out)) (λhHeld=>?_);clear r K;try go_frame
       refine rdc 11 λK r=>?_;refine JA (.tmp 30) (.tmp 32) z.out H.out (by omega) f.out.size λg c WR d a=>?_;have HR:=qhw (show qR 0 WR.heap.size WR (.slice (some ⟨g,0,none⟩) (l.length+1) c) (l++[(k:Int)]) from(((qd.own (l:=l++[(k:Int)]) (by simpa using d) (by simp;omega)).mono (qix _) (qhz _)).g));replace f:=qhw (f.out.andThen a (λj e=>.inl (z.out.lt j e).1));clear d a;refine r.out _ _ (u.out _ (q.out _ f.out)) (λhHeld=>?_);clear r K;try go_frame
       refine⟨by kernel_rfl,?_⟩;simp only[qig,qit];clear hHeld;go_wp2_with (go_at_call 132;refine(N.out _ (q.out _ f.out) _ HR.out).mono ?_;rintro e w6 ⟨rfl,B⟩;have G6:=qhw B;clear B);go_meet;exact⟨by rw[M.out,decide_eq_true R.out,Bool.true_and],f.out.t G6.out⟩
      refine cns 10 (λK r=>?_) ?_
      ·skip;go_simp;have y:=qhw (show wr.gb (WF.alloc (.cells #[.int .i64 k] 3)) none/\(WF.alloc (.cells #[.int .i64 k] 3)).heap[WF.heap.size]?=some (.cells #[.int .i64 k] 3 (0,0))/\wr.heap.size<=WF.heap.size from yP f.out 3 _);replace T:=qhw (qp (p:=(.cells #[.int .i64 k] 3)) T.out);generalize WF.alloc (.cells #[.int .i64 k] 3)=WT at y T ⊢;replace f:=qhw y.out.1;have H:=qhw y.out.2.1;clear y;refine r.out _ _ (u.out _ (q.out _ f.out)) (λhHeld=>?_);clear r K;try go_frame
       refine rdc 8 λK r=>?_;refine Ql (.tmp 28) (.tmp 29) (a9.out _ (q.out _ f.out)) T.out G.out (by omega) λvb vc WO d a=>?_;have z:=qhw d;replace H:=qhw (blk a (by simp;(try omega);(try exact λe=>(have h1:=T.out;have h2:=H.out;by rw[<- e,h2] at h1;cases h1))) H.out);replace f:=qhw (f.out.andThen a (λj e=>.inl (by cases e;exact G.out)));clear d a;refine r.out _ _ (u.out _ (q.out _ f.out)) (λhHeld=>?_);clear r K;try go_frame
       refine rdc 11 λK r=>?_;refine JA (.tmp 30) (.tmp 32) z.out H.out (by omega) f.out.size λg c WR d a=>?_;have HR:=qhw (show qR 0 WR.heap.size WR (.slice (some ⟨g,0,none⟩) (l.length+1) c) (l++[(k:Int)]) from(((qd.own (l:=l++[(k:Int)]) (by simpa using d) (by simp;omega)).mono (qix _) (qhz _)).g));replace f:=qhw (f.out.andThen a (λj e=>.inl (z.out.lt j e).1));clear d a;refine r.out _ _ (u.out _ (q.out _ f.out)) (λhHeld=>?_);clear r K;try go_frame
       refine⟨by kernel_rfl,?_⟩;simp only[qig,qit];clear hHeld;go_wp2_with (go_at_call 132;refine(N.out _ (q.out _ f.out) _ HR.out).mono ?_;rintro e w6 ⟨rfl,B⟩;have G6:=qhw B;clear B);go_meet;exact⟨by rw[M.out,decide_eq_true R.out,Bool.true_and],f.out.t G6.out⟩
      exact qN.nil
     refine cns 10 (λK r=>?_) ?_
     ·skip;go_simp;have y:=qhw (show wr.gb ((wr.alloc (.cells #[.int .i64 k] 3)).drew) none/\((wr.alloc (.cells #[.int .i64 k] 3)).drew).heap[wr.heap.size]?=some (.cells #[.int .i64 k] 3 (0,0))/\wr.heap.size<=wr.heap.size from yP f.out 3 _);generalize (wr.alloc (.cells #[.int .i64 k] 3)).drew=WT at y ⊢;replace f:=qhw y.out.1;have H:=qhw y.out.2.1;clear y;refine r.out _ _ (u.out _ (q.out _ f.out)) (λhHeld=>?_);clear r K;try go_frame
      refine rdc 6 λK r=>?_;go_simp;have y:=qhw (show wr.gb (WT.alloc (.cells #[] 3)) none/\(WT.alloc (.cells #[] 3)).heap[WT.heap.size]?=some (.cells #[] 3 (0,0))/\wr.heap.size<=WT.heap.size from yP f.out 3 _);replace H:=qhw (qp (p:=.cells #[] 3) H.out);generalize WT.alloc (.cells #[] 3)=WF at y H ⊢;replace f:=qhw y.out.1;have T:=qhw y.out.2.1;have G:=qhw y.out.2.2;clear y;refine r.out _ _ (u.out _ (q.out _ f.out)) (λhHeld=>?_);clear r K;try go_frame
      refine rdc 8 λK r=>?_;refine Ql (.tmp 28) (.tmp 29) (a9.out _ (q.out _ f.out)) T.out G.out (by omega) λvb vc WO d a=>?_;have z:=qhw d;replace H:=qhw (blk a (by simp;(try omega);(try exact λe=>(have h1:=T.out;have h2:=H.out;by rw[<- e,h2] at h1;cases h1))) H.out);replace f:=qhw (f.out.andThen a (λj e=>.inl (by cases e;exact G.out)));clear d a;refine r.out _ _ (u.out _ (q.out _ f.out)) (λhHeld=>?_);clear r K;try go_frame
      refine rdc 11 λK r=>?_;refine JA (.tmp 30) (.tmp 32) z.out H.out (by omega) f.out.size λg c WR d a=>?_;have HR:=qhw (show qR 0 WR.heap.size WR (.slice (some ⟨g,0,none⟩) (l.length+1) c) (l++[(k:Int)]) from(((qd.own (l:=l++[(k:Int)]) (by simpa using d) (by simp;omega)).mono (qix _) (qhz _)).g));replace f:=qhw (f.out.andThen a (λj e=>.inl (z.out.lt j e).1));clear d a;refine r.out _ _ (u.out _ (q.out _ f.out)) (λhHeld=>?_);clear r K;try go_frame
      refine⟨by kernel_rfl,?_⟩;simp only[qig,qit];clear hHeld;go_wp2_with (go_at_call 132;refine(N.out _ (q.out _ f.out) _ HR.out).mono ?_;rintro e w6 ⟨rfl,B⟩;have G6:=qhw B;clear B);go_meet;exact⟨by rw[M.out,decide_eq_true R.out,Bool.true_and],f.out.t G6.out⟩
     exact qN.nil
   case rest=>
    obtain⟨rfl,hg⟩:=hcut;have b0:=qhw hg;have a7:=qhw (J5 HO.out hg);clear hg;cases ob
    ·go_wp2;go_roundw
     case rel=>
      refine⟨k+1,by simp,by omega,HG.out.t b0.out,?_,?_⟩
      ·rw[HE.out];simpa using a7.out
      ·rw[HE.out];simp;omega
     case measure=>simp[qj7];omega
    ·go_wp2_with (at_builtin;(refine ql8 _ rfl _ _ 29 rfl w2.heap.size 3 i0 _ 1 8 Tp.und29' k8 k5 k0 h9 rfl (by decide) (.slice oa om oc) (F k).length _ rfl (a7.out.alloc _) ⟨wc.heap.size,0,none⟩ 1 1 [.int .i64 k] rfl rfl (qjh (cs:=#[.int .i64 k]) (t:=3) (fr:=(0,0)) (qhH wc _)) (by simp[qjF]) (by unfold qlc;omega) (by omega) (by have:=b0.out.size;simp;omega) ?_);intro v' w8 C a _;obtain⟨g',n8,rfl⟩:=qme C;have m4:=qhw C;have m6:=qhw a;clear C a);go_roundw
     case rel=>
      refine⟨k+1,by simp,by omega,((HG.out.t b0.out).t (qhx _ _ none)).andThen m6.out (λj e=>.inl (a7.out.lt j e).1),?_,?_⟩
      ·rw[HE.out];simpa using m4.out
      ·rw[HE.out];simp;omega
     case measure=>simp[qj7];omega
  ·obtain rfl:k=s.length:=by omega
   go_wp2;go_ret2;have Q:=HO.out;rw[m9.out] at Q l6;exact⟨_,rfl,(e4.out.t S.out).t HG.out,(qd.own Q (by omega)).mono (qix _) (qhz _)⟩
def q2l(w:qhy)(a:Obj):∃A b,A=w.heap.size/\b=w.alloc a/\w.gb b none/\b.heap[A]?=some a:=⟨_,_,rfl,rfl,qhx _ _ none,qhH w _⟩
def q8A{a:List Par}{e:Int}(h:YOk a e){l:List Int}(f:∀x∈l,0<=x/\x<a.length) :(l.length=0/\jl a l=.tuple #[.agg #[.int .i64 0,.int .i64 0],.int .i64 11])\/(l.length≠0/\z9 a l=2/\jl a l=.tuple #[.agg #[.int .i64 0,.int .i64 0],.int .i64 11]) \/(l.length≠0/\z9 a l≠2/\((z9 a l=1/\jl a l=.tuple #[.agg #[(qI a (pre Par.mx a a.length) l l.length),(qI a (pre Par.mn a a.length) l l.length)],.int .i64 0]) \/(z9 a l=3/\jl a l=.tuple #[.agg #[.int .i64 (-1),(qI a (pre Par.mn a a.length) l l.length)],.int .i64 0]))):=by
 have c:=ZV a (pre Par.mn a a.length) l f;have b:=ZV a (pre Par.mx a a.length) l f;have i:=Y9 a l h.le l.length;unfold jl z9;by_cases d:l.length=0
 ·exact .inl ⟨d,if_pos (.inr d)⟩
 ·by_cases hm:qI a (pre Par.mn a a.length) l l.length<0
  ·refine .inr (.inl ⟨d,?_,if_pos (.inl hm)⟩);rw[c,b,decide_eq_false (by omega),decide_eq_false (by omega)];rfl
  ·by_cases f:qI a (pre Par.mx a a.length) l l.length<0
   ·have g:K7 true false=3:=rfl;refine .inr (.inr ⟨d,?_,.inr ⟨?_,?_⟩⟩)
    ·rw[c,b,decide_eq_true (by omega),decide_eq_false (by omega),g];decide
    ·rw[c,b,decide_eq_true (by omega),decide_eq_false (by omega)];rfl
    ·rw[if_neg (by omega),show max (-1) (qI a (pre Par.mx a a.length) l l.length)=-1 by omega]
   ·have g:K7 true true=1:=rfl;refine .inr (.inr ⟨d,?_,.inl ⟨?_,?_⟩⟩)
    ·rw[c,b,decide_eq_true (by omega),decide_eq_true (by omega),g];decide
    ·rw[c,b,decide_eq_true (by omega),decide_eq_true (by omega)];rfl
    ·rw[if_neg (by omega),show max (-1) (qI a (pre Par.mx a a.length) l l.length)=qI a (pre Par.mx a a.length) l l.length by omega]
def q6k(pv qv:qhC)(q:List Par)(y:Int)(l:List Int)(w:qhy)(hP:ze 0 w.heap.size w pv q)(hI:qR 0 w.heap.size w qv l)(I:l.length<=1000)(d5:∀b n c,qv=.slice b n c->n<=c) :qiw Ya 78 #[.agg #[pv,y],qv] w λe w'=>e=.returned (Qo q y l)/\w.gb w' none:=by
 obtain⟨yb,yc,rfl,x5,e5⟩:=hP.cell;obtain⟨base,t3,rfl,A4,e7⟩:=hI.cell;have⟨A,X,hA,a8,G,V,a9,z4⟩:=zj w (.cells #[.slice yb q.length yc,y] 24) (.cells #[.int .i64 0,.int .i64 0] 26);have Y:=λ(W:qhy) (h:X.gb W none)=>((hP.kept (G.t h)).mono (qhz _) (G.t h).size:ze 0 W.heap.size W (.slice yb q.length yc) q);have Z:=λ(W:qhy) (h:X.gb W none)=>((hI.kept (G.t h)).mono (qhz _) (G.t h).size:qR 0 W.heap.size W (.slice base l.length t3) l);have b7:=qhw (yy _ _ q y l X (Y _ (qi2 _ _)) (Z _ (qi2 _ _)) I d5);have b6:=qhw (show ∀W,X.gb W none->W.cell? A=some (.slice yb q.length yc)/\W.cell? ⟨A,1,none⟩=some (.int .i64 y) from λW h=>⟨q8 (bk h V) rfl,q8 (bk h V) rfl⟩);have q0:=q8 V (o:=0) rfl;have q1:=q8 V (o:=1) rfl;have⟨HW,HA,p8,H⟩:=zI a8 hA G a9;have z0:=qj (o:=0) a9;have z1:=qj (o:=1) a9;clear d5 a9;by_cases R:zA q y l=0;rotate_left
 ·have s6:(zA q y l == 0)=false:=by rw[beq_eq_false_iff_ne];exact R
  have H0:=qhw R;clear hP hI Y Z e5 e7 a8 hA G V R;obtain⟨c,e8⟩:∃c,c=zA q y l:=⟨_,rfl⟩;rw[<- e8] at b7 s6;have t8:=qhw e8;clear e8;go_enter Tp.x78,Tryz.ntmps78;go_upto_region 1 with(fail);rw[<- HA,<- HW];have A8:A+1≠A:=by omega
  go_wp2_with (go_at_call 50;refine b7.mono ?_;rintro e w2 ⟨rfl,F⟩;have k7:=qhw (p8.t F);have v3:=qhw F;have s2:=q8 (bk F H) (o:=0) rfl;have s3:=q8 (bk F H) (o:=1) rfl;have z2:=qj (o:=0) (bk F H);have z3:=qj (o:=1) (bk F H);clear F z0 z1);refine qjw (v:=.tuple #[.agg #[.int .i64 0,.int .i64 0],.int .i64 c]) ?_ rfl ⟨by rw[show Qo q y l=_ from if_neg H0.out,t8],k7.andThen ((qf _ _ _ _).t (qf _ _ _ _)) (λj e=>by cases e;left;rw[<- HA];omega)⟩;rw[qlv rfl];go_simp
 have⟨hy,hp⟩:=Qu R;rw[R] at b7;have H0:=qhw R;have h5:=hy.len;have HY:=qhw hy;have s:=qhw hp.ok;have k0:=qhw λ(W:qhy) (h:X.gb W none)=>yf 0 _ _ q y W ⟨_,rfl,Y W h⟩ (by omega);have p5:=qhw λ(W:qhy) (h:X.gb W none) (O hi:Nat) (bv:qhC) (hB:qG O hi W bv (zC q))=>Qm 0 _ 0 _ O hi _ _ bv q y l W (Y W h) (Z W h) hB hy hp.ok I;have HV:=qhw (show Qo q y l=jl q l from if_pos R);have b0:=qhw (q8A hy hp.ok);have t4:=qhw (show ∀k,k<l.length->∃(m:Nat) (p:Par) (YB yo LB O:Nat),yb=some ⟨YB,yo,none⟩/\base=some ⟨LB,O,none⟩/\m<q.length/\q[(l[k]?.getD 0).toNat]?=some p/\0<=p.bears/\p.bears<=30/\∀W,X.gb W none->W.cell? ⟨LB,O+k,none⟩=some (.int .i64 m)/\W.cell? ⟨YB,yo+m*4+2,none⟩=some (.int .i64 p.bears) from λk hk=>by
  obtain⟨x,e4⟩:∃x,l[k]?=some x:=⟨_,qhG hk⟩;have x6:=hp.ok x (qih e4);obtain⟨m,rfl⟩:∃m:Nat,x=m:=⟨x.toNat,by omega⟩;have hm:m<q.length:=by omega
  obtain⟨YB,yo,e1,-,-,-,h4⟩:=e5 (by intro e;rw[e] at hm;simp at hm);obtain⟨p,T,-,-,p2,-⟩:=h4 m hm;obtain⟨LB,O,e2,-,-,-,h5⟩:=e7 (by intro e;rw[e] at hk;simp at hk);have d0:=h5 k hk;rw[e4] at d0;have hb:=hy.each p (qih T);exact⟨m,p,YB,yo,LB,O,e1,e2,hm,by rw[e4];simpa using T,by omega,by omega,λW h=>⟨(G.t h).cl d0,(G.t h).cl p2⟩⟩)
 obtain⟨gm,m9⟩:∃gm,gm=pre Par.mn q q.length:=⟨_,rfl⟩;obtain⟨gx,m8⟩:∃gx,gx=pre Par.mx q q.length:=⟨_,rfl⟩;have L:=qhw λ(W:qhy) (h:X.gb W none) (O hi:Nat) (bv:qhC) (hB:qG O hi W bv (zC q)) (i:Nat) (s1:i<l.length)=>q25 0 _ O hi _ _ l (zC q) _ _ i W (Z W h) hB (qf7 hp.ok) hy.mn hy.mx I s1;have p7:=qhw λi=>qie (QX _ l i hy.mn I) (QX _ l i hy.mx I);rw[<- m9,<- m8] at b0 L p7;have p6:=qhw (show ∀g k (p:Par),q[(l[k]?.getD 0).toNat]?=some p->qI q g l (k+1)=min (qI q g l k) (p.bears - loadAt g l k) from λg k p h=>by show(match q[(l[k]?.getD 0).toNat]? with | some p=>_ | none=>_)=_;rw[h]);have d7:=qhw (show ∀g,qI q g l 0=30 from λg=>rfl);generalize jl q l=sv at HV b0 ⊢;generalize z9 q l=st at p5 b0;clear hP hI Y Z e5 e7 a8 hA G V R hy hp m9 m8;go_enter Tp.x78,Tryz.ntmps78;go_upto_region 1 with(fail);rw[<- HA,<- HW];go_upto_region 4 with(go_at_call 50;refine b7.mono ?_;rintro e w2 ⟨rfl,F⟩;have k7:=qhw F;clear F);have d:=qhw (q9 w2 none);have f:=qhw λ(W:qhy) (h:w2.gb W none)=>k7.t h;clear q0 q1 z0 z1;refine qr 4 (λW=>W.cell? A=some (.slice yb q.length yc)/\W.cell? ⟨A,1,none⟩=some (.int .i64 y)) (by kernel_rfl) (by kernel_rfl) (b6 _ (f _ d)) (λhHeld=>?_);simp only[qi3,qi7,qii,qiB,qib,qij,qik,qiq,qin,qi9];refine tk 0 (h:=tk 1 (h:=tk 2 (h:=?_)));try go_frame
 refine rdc 3 λK C=>?_;go_simp;go_at_call 89;refine(k0 _ (f _ d)).mono ?_;rintro e w5 ⟨bv,rfl,n3,e9⟩;replace d:=qhw (d.t n3);have HB:=qhw e9;obtain⟨bb,bc,rfl,-,-⟩:=e9.cell;clear n3 e9;refine C.out _ _ (b6 _ (f _ d)) (λhHeld=>?_);try go_frame
 refine⟨by kernel_rfl,?_⟩;simp only[qig,qit];clear hHeld;go_upto_region 5 with(go_at_call 131;refine(p5 _ (f _ d) _ _ _ HB).mono ?_;rintro e w6 ⟨rfl,n2⟩;have G6:=qhw ((f _ d).t n2);clear n2);have s2:=q8 (bk G6 H) (o:=0) rfl;have s3:=q8 (bk G6 H) (o:=1) rfl;have z2:=qj (o:=0) (bk G6 H);have z3:=qj (o:=1) (bk G6 H);have S:=qhw (show ∀W (u v:qhC),X.gb W none->w.gb ((W.setCell (A+1:Nat) u).setCell ⟨A+1,1,none⟩ v) none from λW u v h=>(p8.t h).andThen ((qf _ _ _ _).t (qf _ _ _ _)) (λj e=>by cases e;left;rw[<- HA];omega));rcases b0 with⟨R,rfl⟩ | ⟨R,rfl,rfl⟩ | ⟨R,hs,m4⟩
 ·have g8:((l.length:Int) == 0)=true:=by simp[R]
  clear R;go_wp2;refine qjw (v:=.tuple #[.agg #[.int .i64 0,.int .i64 0],.int .i64 11]) ?_ rfl ⟨by rw[HV],S _ _ _ G6⟩;rw[qlv rfl];go_simp
 ·have g8:((l.length:Int) == 0)=false:=by rw[beq_eq_false_iff_ne];omega
  clear R;go_wp2;refine qjw (v:=.tuple #[.agg #[.int .i64 0,.int .i64 0],.int .i64 11]) ?_ rfl ⟨by rw[HV],S _ _ _ G6⟩;rw[qlv rfl];go_simp
 ·have g8:((l.length:Int) == 0)=false:=by rw[beq_eq_false_iff_ne];omega
  have r9:(st == 2)=false:=by rw[beq_eq_false_iff_ne];exact hs
  have k5:=qhw m4;clear hs m4 R;go_upto_region 8 with(fail);have⟨D,w7,hD,m3,g5,n7⟩:=q2l w6 (.cells #[.int .i64 30,.int .i64 30] 26);rw[<- hD,<- m3];have t7:=qhw (G6.t g5);have k8:=qhw (show X.heap.size<=D by rw[hD];exact G6.size);have A7:A+1<D:=by have:=k8.out;omega
  clear s2 s3 z2 z3 m3 hD;have t5:=qhw (bk g5 (blk G6 (by simp) H));have u0:=qhw n7;clear n7 r9 g8 g5;go_wp2;go_loopw [9] (λiv wr=>∃k:Nat,iv=.int .i64 k/\k<=l.length/\w7.gb wr (some D)/\wr.heap[D]?=some (.cells #[.int .i64 (qI q gx l k),.int .i64 (qI q gm l k)] 26 (0,0))) (λiv _=>(l.length - qj7 iv).toNat)
  case atStart=>exact⟨0,rfl,by omega,qi2 _ _,by rw[d7,d7];exact u0⟩
  case round=>
   obtain⟨k,rfl,hk,hG,g7⟩:=hrel;have⟨HG,N⟩:=qF hG g7;have k6:=qhw (t7.andThen hG (by rintro j e;cases e;exact .inl k8));have A6:=(qhB.1 g7).1;clear hG g7;by_cases m5:k<l.length
   ·obtain⟨m,p,YB,yo,LB,O,rfl,rfl,hm,T,s7,n4,e6⟩:=t4.out k m5;have m6:=p7.out k;have e1:=p6.out gx k p T;have e2:=p6.out gm k p T;have L:=qhw λ(W:qhy) (h:X.gb W none) (O hi:Nat) (bv:qhC) (hB:qG O hi W bv (zC q))=>L W h O hi bv hB k m5;generalize loadAt gm l k=a at m6 e2 L;generalize loadAt gx l k=b at m6 e1 L;generalize p.bears=c at s7 n4 e6 e1 e2;have x8:=JD q gx l k;have x9:=JD q gm l k;generalize qI q gx l k=sx at N e1;generalize qI q gm l k=sm at N e2;have HE:=qhw (qie e1 e2);have a8:IntKind.i64.wrap (c - b)=c - b:=qiv _ (by omega);have x7:IntKind.i64.wrap (c - a)=c - a:=qiv _ (by omega);have z:=qhw λ(W:qhy) (h:X.gb W none)=>qie (b6 W h).1 (qie (b6 W h).2 (e6 W h));have f:=qhw λ(W:qhy) (h:wr.gb W none)=>k6.t h;have A3:(k:Int)<(l.length:Int):=by omega
    have z5:(m:Int)<(q.length:Int):=by omega
    clear T e6 e1 e2;go_upto_region 11 with(fail);go_cut [10,11] from 39 to 53 (λr5 r4 wx=>∃E,r5=.pointer (some ⟨E,0,none⟩)/\r4=.int .i64 c/\wr.gb wx none/\wr.heap.size<=E/\wx.heap[E]?=some (.cells #[a,.int .i64 b] 26 (0,0)))
    case first=>
     have d:=qhw (q9 wr none);refine qr 16 (λW=>W.cell? A=some (.slice (some ⟨YB,yo,none⟩) q.length yc)/\W.cell? ⟨A,1,none⟩=some (.int .i64 y)/\W.cell? ⟨LB,O+k,none⟩=some (.int .i64 m)/\W.cell? ⟨YB,yo+m*4+2,none⟩=some (.int .i64 c)) (by kernel_rfl) (by kernel_rfl) (z _ (f _ d)) (λhHeld=>?_);simp only[qi3,qi7,qii,qiB,qib,qij,qik,qiq,qin,qi9];refine tk 0 (h:=tk 1 (h:=tk 3 (h:=tk 5 (h:=tk 6 (h:=tk 7 (h:=tk 8 (h:=tk 9 (h:=tk 10 (h:=tk 11 (h:=tk 12 (h:=tk 13 (h:=?_))))))))))));try go_frame
     refine rdy [2,14] ?_;refine cns 2 (λK C=>?_) ?_
     ·skip;go_simp;go_at_call 89;refine(k0 _ (f _ d)).mono ?_;rintro e w8 ⟨bv,rfl,P,Q⟩;replace d:=qhw (d.t P);have HB:=qhw Q;obtain⟨bb,bc,rfl,-,-⟩:=Q.cell
      (try replace r:=qhw (bk P r))
      clear P Q;refine C.out _ _ (z _ (f _ d)) (λhHeld=>?_);try go_frame
      refine rdy [4,14] ?_;refine cns 4 (λK C=>?_) ?_
      ·skip;go_simp;go_at_call 105;refine(L _ (f _ d) _ _ _ HB).mono ?_;rintro e w9 ⟨rfl,B⟩;replace d:=qhw (d.t B)
       (try replace r:=qhw (bk B r))
       clear B;refine C.out _ _ (z _ (f _ d)) (λhHeld=>?_);refine rdc 14 λK C=>?_;go_simp;have s:=qhw (show wr.gb (w9.alloc (.cells #[.int .i64 0,.int .i64 0] 26)) none/\(w9.alloc (.cells #[.int .i64 0,.int .i64 0] 26)).heap[w9.heap.size]?=some (.cells #[.int .i64 0,.int .i64 0] 26 (0,0))/\wr.heap.size<=w9.heap.size from yP d 26 _);generalize w9.alloc (.cells #[.int .i64 0,.int .i64 0] 26)=WN at s ⊢;generalize w9.heap.size=E at s ⊢;replace d:=qhw s.1;have r:=qhw s.2.1;have M:=qhw s.2.2;clear s;refine C.out _ _ (z _ (f _ d)) (λhHeld=>?_);refine rdc 15 λK C=>?_;have t0:=qj r (o:=0);have t1:=qj r (o:=1);have c0:=q8 r (o:=0) rfl;have c1:=q8 r (o:=1) rfl;go_simp;have s:=qhw (q6r (u:=.int .i64 a) (v:=.int .i64 b) d r M);replace d:=qhw s.1;replace r:=qhw s.2;clear t0 t1 c0 c1 s;refine C.out _ _ (z _ (f _ d)) (λhHeld=>?_);try go_frame
       refine⟨by kernel_rfl,?_⟩;simp only[qig,qit];go_wp2;go_meet;exact⟨_,rfl,rfl,d,M,r⟩
      refine cns 14 (λK C=>?_) ?_
      ·skip;go_simp;have s:=qhw (show wr.gb (w8.alloc (.cells #[.int .i64 0,.int .i64 0] 26)) none/\(w8.alloc (.cells #[.int .i64 0,.int .i64 0] 26)).heap[w8.heap.size]?=some (.cells #[.int .i64 0,.int .i64 0] 26 (0,0))/\wr.heap.size<=w8.heap.size from yP d 26 _);replace HB:=qhw (HB.kept (qhx w8 (.cells #[.int .i64 0,.int .i64 0] 26) none));generalize w8.alloc (.cells #[.int .i64 0,.int .i64 0] 26)=WN at s HB ⊢;generalize w8.heap.size=E at s ⊢;replace d:=qhw s.1;have r:=qhw s.2.1;have M:=qhw s.2.2;clear s;refine C.out _ _ (z _ (f _ d)) (λhHeld=>?_);refine rdc 4 λK C=>?_;go_simp;go_at_call 105;refine(L _ (f _ d) _ _ _ HB).mono ?_;rintro e w9 ⟨rfl,B⟩;replace d:=qhw (d.t B)
       (try replace r:=qhw (bk B r))
       clear B;refine C.out _ _ (z _ (f _ d)) (λhHeld=>?_);refine rdc 15 λK C=>?_;have t0:=qj r (o:=0);have t1:=qj r (o:=1);have c0:=q8 r (o:=0) rfl;have c1:=q8 r (o:=1) rfl;go_simp;have s:=qhw (q6r (u:=.int .i64 a) (v:=.int .i64 b) d r M);replace d:=qhw s.1;replace r:=qhw s.2;clear t0 t1 c0 c1 s;refine C.out _ _ (z _ (f _ d)) (λhHeld=>?_);try go_frame
       refine⟨by kernel_rfl,?_⟩;simp only[qig,qit];go_wp2;go_meet;exact⟨_,rfl,rfl,d,M,r⟩
      exact qN.nil
     refine cns 14 (λK C=>?_) ?_
     ·skip;go_simp;have s:=qhw (show wr.gb ((wr.alloc (.cells #[.int .i64 0,.int .i64 0] 26)).drew) none/\((wr.alloc (.cells #[.int .i64 0,.int .i64 0] 26)).drew).heap[wr.heap.size]?=some (.cells #[.int .i64 0,.int .i64 0] 26 (0,0))/\wr.heap.size<=wr.heap.size from yP d 26 _);generalize (wr.alloc (.cells #[.int .i64 0,.int .i64 0] 26)).drew=WN at s ⊢;replace d:=qhw s.1;have r:=qhw s.2.1;have M:=qhw s.2.2;clear s;refine C.out _ _ (z _ (f _ d)) (λhHeld=>?_);refine rdc 2 λK C=>?_;go_simp;go_at_call 89;refine(k0 _ (f _ d)).mono ?_;rintro e w8 ⟨bv,rfl,P,Q⟩;replace d:=qhw (d.t P);have HB:=qhw Q;obtain⟨bb,bc,rfl,-,-⟩:=Q.cell
      (try replace r:=qhw (bk P r))
      clear P Q;refine C.out _ _ (z _ (f _ d)) (λhHeld=>?_);refine rdc 4 λK C=>?_;go_simp;go_at_call 105;refine(L _ (f _ d) _ _ _ HB).mono ?_;rintro e w9 ⟨rfl,B⟩;replace d:=qhw (d.t B)
      (try replace r:=qhw (bk B r))
      clear B;refine C.out _ _ (z _ (f _ d)) (λhHeld=>?_);refine rdc 15 λK C=>?_;have t0:=qj r (o:=0);have t1:=qj r (o:=1);have c0:=q8 r (o:=0) rfl;have c1:=q8 r (o:=1) rfl;go_simp;have s:=qhw (q6r (u:=.int .i64 a) (v:=.int .i64 b) d r M);replace d:=qhw s.1;replace r:=qhw s.2;clear t0 t1 c0 c1 s;refine C.out _ _ (z _ (f _ d)) (λhHeld=>?_);try go_frame
      refine⟨by kernel_rfl,?_⟩;simp only[qig,qit];go_wp2;go_meet;exact⟨_,rfl,rfl,d,M,r⟩
     exact qN.nil
    case rest=>
     obtain⟨E,rfl,rfl,hg,hE,g6⟩:=hcut;have z0:=q8 g6 (o:=0) rfl;have z1:=q8 g6 (o:=1) rfl;have U:=bk hg N;have y0:=q8 U (o:=0) rfl;have y1:=q8 U (o:=1) rfl;have t0:=qj U (o:=0);have t1:=qj U (o:=1);have⟨t9,t6⟩:=qF U hg;clear hg g6 U;obtain⟨m1,A0⟩:∃m1,(if c - b<sx then c - b else sx)=m1:=⟨_,rfl⟩;obtain⟨m2,z7⟩:∃m2,(if c - a<sm then c - a else sm)=m2:=⟨_,rfl⟩;go_wp2;go_roundw
     case rel=>
      have s4:=(qf wc D 0 (.int .i64 m1)).t (qf _ D 1 (.int .i64 m2));refine⟨k+1,by simp,by omega,(HG.t (t6.but _)).t s4,?_⟩;rw[HE.1,HE.2,show min sx (c - b)=m1 by omega,show min sm (c - a)=m2 by omega];exact qg (o:=1) (v:=.int .i64 m2) (qg (o:=0) (v:=.int .i64 m1) t9)
     case measure=>simp[qj7];omega
   ·obtain rfl:k=l.length:=by omega
    generalize qI q gx l l.length=sx at N k5;generalize qI q gm l l.length=sm at N k5;have hR:=blk HG (by simp;omega) t5;have s2:=q8 hR (o:=0) rfl;have s3:=q8 hR (o:=1) rfl;have z2:=qj (o:=0) hR;have z3:=qj (o:=1) hR;have y0:=q8 N (o:=0) rfl;have y1:=q8 N (o:=1) rfl;have t0:=qj N (o:=0);clear hR;rcases k5 with⟨rfl,rfl⟩ | ⟨rfl,rfl⟩
    ·go_wp2;refine qjw (v:=.tuple #[.agg #[sx,sm],.int .i64 0]) ?_ rfl ⟨by rw[HV],S _ _ _ k6⟩;rw[qlv rfl];go_simp
    ·go_wp2;refine qjw (v:=.tuple #[.agg #[.int .i64 (-1),sm],.int .i64 0]) ?_ rfl ⟨by rw[HV],S _ _ _ (k6.andThen (qf _ D 0 _) (by rintro j e;cases e;exact .inl k8))⟩;rw[qlv rfl];go_simp
end
section
open Go Go.RowKit Go.Co Go.Sim Go.Conc Go.ConcN
structure qdc(v:qhy)(own yd pl pr:qhC)(er sv sa sb sc:Int)(cl ol:List Int):Prop where
 c73:∀W,v.grownBy W none->qiw Ya 73 #[own,pl] W λe w'=>∃b c,e=.returned (.tuple #[.slice b cl.length c,er])/\W.grownBy w' none/\qd 0 w'.heap.size w' (.slice b cl.length c) cl
 c76:∀W,v.grownBy W none->qiw Ya 76 #[yd,pr] W λe w'=>∃b c,e=.returned (.tuple #[.slice b cl.length c,er])/\W.grownBy w' none/\qd 0 w'.heap.size w' (.slice b cl.length c) cl
 c37:∀W,v.grownBy W none->qiw Ya 37 #[own,pl] W λe w'=>e=.returned (.tuple #[sv,er])/\W.grownBy w' none
 c77:∀W,v.grownBy W none->qiw Ya 77 #[yd,pr] W λe w'=>e=.returned (.tuple #[sv,er])/\W.grownBy w' none
 c36:∀W,v.grownBy W none->qiw Ya 36 #[own,pl] W λe w'=>e=.returned (.tuple #[.agg #[sa,sb],sc])/\W.grownBy w' none
 c78:∀W,v.grownBy W none->qiw Ya 78 #[yd,pr] W λe w'=>e=.returned (.tuple #[.agg #[sa,sb],sc])/\W.grownBy w' none
 c75:∀W,v.grownBy W none->qiw Ya 75 #[own,pl] W λe w'=>∃b c,e=.returned (.tuple #[.slice b ol.length c,er])/\W.grownBy w' none/\qd 0 w'.heap.size w' (.slice b ol.length c) ol
 c79:∀W,v.grownBy W none->qiw Ya 79 #[yd,pr] W λe w'=>∃b c,e=.returned (.tuple #[.slice b ol.length c,er])/\W.grownBy w' none/\qd 0 w'.heap.size w' (.slice b ol.length c) ol
def sliced{W:qhy}{f:Nat}{d:Array qhC}{j:Int}{g:List Int}(h:qiw Ya f d W λe a=>∃v,e=.returned (.tuple #[v,j])/\W.gb a none/\qd 0 a.heap.size a v g) :qiw Ya f d W λe a=>∃b c,e=.returned (.tuple #[.slice b g.length c,j])/\W.gb a none/\qd 0 a.heap.size a (.slice b g.length c) g:=by
 refine h.mono ?_;rintro e a ⟨v,rfl,k,i⟩;obtain⟨b,c,rfl,-,-⟩:=i.cell;exact⟨b,c,rfl,k,i⟩
def q4d(e:List Par)(d:Int)(l:List Int):∃a b c,Qo e d l=.tuple #[.agg #[.int .i64 a,.int .i64 b],.int .i64 c]:=by
 unfold Qo jl;split
 ·split<;>exact⟨_,_,_,rfl⟩
 ·exact⟨_,_,_,rfl⟩
def qdc.of{v:qhy}{F B w r:Option qj5}{D A q p:Nat}{d:List Par}{a:List Int}{lm:Int}(M:qn 0 v.heap.size v (.slice F d.length D) d)(L:ze 0 v.heap.size v (.slice B d.length A) d)(N:qd 0 v.heap.size v (.slice w a.length q) a)(I:qR 0 v.heap.size v (.slice r a.length p) a)(f:a.length<=1000)(y:a.length<=q)(x:a.length<=p) :∃O G u t s P H,qdc v (.agg #[.slice F d.length D,lm]) (.agg #[.slice B d.length A,lm]) (.slice w a.length q) (.slice r a.length p) O G u t s P H:=by
 have⟨u,t,s,o⟩:=q4d d lm a;have k:=λ(W:qhy) (h:v.gb W none)=>((M.kept h).mono (qhz _) h.size:qn 0 W.heap.size W _ d);have j:=λ(W:qhy) (h:v.gb W none)=>((L.kept h).mono (qhz _) h.size:ze 0 W.heap.size W _ d);have l:=λ(W:qhy) (h:v.gb W none)=>((N.kept h).mono (qhz _) h.size:qd 0 W.heap.size W _ a);have i:=λ(W:qhy) (h:v.gb W none)=>((I.kept h).mono (qhz _) h.size:qR 0 W.heap.size W _ a);have g:∀b n c,qiH r a.length p=.slice b n c->n<=c:=λb n c e=>by cases e;exact x
 have z:∀b n c,qiH w a.length q=.slice b n c->n<=c:=λb n c e=>by cases e;exact y
 refine⟨zA d lm a,xB d lm a,u,t,s,ZM d lm a,onC d lm a,λW h=>sliced (q9F _ _ d lm a W (k W h) (l W h) f),λW h=>sliced (q7a _ _ d lm a W (j W h) (i W h) f g),λW h=>q65 _ _ d lm a W (k W h) (l W h) f,λW h=>q45 _ _ d lm a W (j W h) (i W h) f g,
  λW h=>?_,λW h=>?_,λW h=>sliced (qfE _ _ d lm a W (k W h) (l W h) f z),λW h=>sliced (qe1 _ _ d lm a W (j W h) (i W h) f g)⟩
 ·rw[<- o];exact q8B _ _ d lm a W (k W h) (l W h) f
 ·rw[<- o];exact q6k _ _ d lm a W (j W h) (i W h) f g
section
variable[J:JunkSet]{Post:qhC->qhy->Prop}{W:qhy}
def el20(D:Two Ya qi8)(s6:JunkSet.okf 137)(u0:∀i,¬ JunkSet.jk i)(u5:Ya.inits.idxOf? 20=none)(l8:Tryz.prog.inits.idxOf? 20=none){yb lb base:Option qj5}{ny yc nl lc b8 v7:Nat}{b7 n:Int}{p:Par}{wq:qhy}(hl:(b8:Int)<=9223372036854775807)(hr:0<b8->∃lb lo,base=some ⟨lb,lo,none⟩/\∀i,i<b8->∃x,wq.cell? ⟨lb,lo+i,none⟩=some (.int .i64 x))(h0:qZ wq 0)(hY:ny<=20->∃ps:List Par,ps.length=ny/\ze 0 wq.heap.size wq (.slice yb ny yc) ps)(hL:nl<=20->∃l:List Int,l.length=nl/\qR 0 wq.heap.size wq (.slice lb nl lc) l/\nl<=lc)(d9:∀w,(∀j,j<W.heap.size->w.heap[j]?=W.heap[j]?)->w.os=W.os->w.output=W.output->W.heap.size<=w.heap.size->Post (.bool true) w) :EL Ya qi8 20 Post W (G (qj1 Ya 20 #[.agg #[.slice yb ny yc,b7],.agg #[p.mn,p.mx,p.bears,p.tall],.slice lb nl lc,n,.slice base b8 v7] .normal) [qk 20]) wq:=by
 have d:Ya.funcs[(qir 20).fn]?=Tryz.prog.funcs[(qir 20).fn]?:=zh 20 (by decide);have r:Bot 20 [qk 20]:=⟨[],rfl⟩;rw[q9i (fn:=qon) (c0:=Tryz.f20.body.getD .skip) Tp.x20 (by kernel_rfl)];simp only[qon,qi0];walk_nrm;have⟨HR,x3,x7⟩:=qY hr hY hL;clear hr hY hL;refine EL.sp D r d λT=>?_;go_wp2;obtain⟨A,hA⟩:∃A,A=(wq.tp T).heap.size:=⟨_,rfl⟩;rw[<- hA];have M:=(qhx (wq.tp T) (.cells #[.slice yb ny yc,b7] 24) none).t (qhx _ (.cells #[p.mn,p.mx,p.bears,p.tall] 28) none);refine yS (λq=>(wq.tp q.tape).gb q none/\q.heap[A]?=some (.cells #[.slice yb ny yc,b7] 24 (0,0))/\q.heap[A+1]?=some (.cells #[p.mn,p.mx,p.bears,p.tall] 28 (0,0))) ⟨tpg (T:=T) M,qp (by rw[hA];exact qhH _ _),by
  have:=qhH ((wq.tp T).alloc (.cells #[.slice yb ny yc,b7] 24)) (.cells #[p.mn,p.mx,p.bears,p.tall] 28);rw[qi6,<- hA] at this;exact this⟩ λu1 hF=>?_
 obtain⟨g1,a1,p1⟩:=hF;clear M hA;by_cases l9:20<ny\/20<nl
 ·have E4:(20:Int)<(ny:Int)\/((¬ (20:Int)<(ny:Int))/\(20:Int)<(nl:Int)):=by omega
  clear l9;refine EL.seq D r d ?_;refine EL.seq D r d ?_;rcases E4 with v3 | ⟨v3,E3⟩;all_goals
   refine EL.piece D r d λT=>?_;have c0:=q8 (w:=u1.tp T) a1 (o:=0) rfl;go_wp2;refine EL.tape (wq:=u1) ?_ T;clear c0;refine EL.cond D r d true (by rfl) ?_;simp only[if_true];refine EL.seq D r d ?_;refine EL.region D r d ?_;simp only[qiu,qi3,qi7,qii,qib,qiz,qj9];refine EL.enter D r d (fk:=23) (args:=#[]) rfl rfl (λT=>by rw[qnj (f:=23) rfl Tp.x23 (by kernel_rfl) rfl];walk_nrm) (zh 23 (by decide)) ?_;refine qha D s6 u0 u5 ⟨_,Tp.x20,qp7⟩ ?_ _ [qk 20] r d λv u hR=>?_
   ·obtain⟨cs,e,g,h0,p3⟩:=h0;exact⟨cs,e,g,blk (w:=wq.tp u1.tape) g1 (by simp) h0,p3⟩
   obtain⟨rfl,P⟩:=hR;rw[qkm];walk_nrm;refine EL.list D r d [1] [_] (rest:=[]) rfl λT4=>?_;go_wp2;refine EL.tape (wq:=u) ?_ T4;refine EL.region_end D r d ?_;refine EL.retS D r d ?_;exact EL.last l8 rfl rfl qp7 rfl rfl d9
 have s7:ny<=20:=by omega
 have s8:nl<=20:=by omega
 clear l9;obtain⟨ps,rfl,hP⟩:=x3.out s7;obtain⟨l,rfl,hI,t8⟩:=x7.out s8;clear x3 x7;refine EL.seq D r d ?_;refine EL.sp D r d λT=>?_;have c0:=q8 (w:=u1.tp T) a1 (o:=0) rfl;have v3:¬ (20:Int)<(ps.length:Int):=by omega
 have E3:¬ (20:Int)<(l.length:Int):=by omega
 go_wp2;refine EL.tape (wq:=u1) ?_ T;clear c0;refine EL.cond D r d false (by rfl) ?_;refine EL.skip D r d ?_;refine EL.sp D r d λT=>?_;have x6:=qhw (show 0<b8->∃lb lo,base=some ⟨lb,lo,none⟩/\∀i,i<b8->∃x,(u1.tp T).cell? ⟨lb,lo+i,none⟩=some (.int .i64 x) from λhp=>by
  have⟨lb,lo,e,h⟩:=HR.out hp;refine⟨lb,lo,e,λi hi=>?_⟩;have⟨x,hx⟩:=h i hi;exact⟨x,World.grownBy.cell (w:=wq.tp u1.tape) g1 hx (by simp)⟩)
 go_wp2_with (go_at_call 24;refine(q6w base b8 v7 (u1.tp T) hl x6).mono ?_;rintro e w2 ⟨rfl,v2,s4⟩;have G2:=qhw v2;have T2:=qhw s4;clear v2 s4);obtain⟨b,p6⟩:∃b,b=(u1.tp T).heap.size:=⟨_,rfl⟩;rw[<- p6] at T2 ⊢;have p5:wq.heap.size<=b:=by rw[p6];exact g1.size
 refine yS (λu=>(wq.tp u.tape).gb u none/\qQ u b 0/\u.heap[A]?=some (.cells #[.slice yb ps.length yc,b7] 24 (0,0))/\u.heap[A+1]?=some (.cells #[p.mn,p.mx,p.bears,p.tall] 28 (0,0))) ⟨gb g1 (tpg G2),T2,blk (w:=u1.tp T) G2 (by simp) a1,blk (w:=u1.tp T) G2 (by simp) p1⟩ λu2 hF=>?_;obtain⟨g2,t2,a2,p2⟩:=hF;clear G2 T2 p6 HR x6 g1 a1 p1;have⟨HP,HI⟩:=qF hP hI;clear hP hI;refine EL.sp D r d λT=>?_;have c0:=q8 (w:=u2.tp T) a2 (o:=0) rfl;have c1:=q8 (w:=u2.tp T) a2 (o:=1) rfl;have c2:=q8 (w:=u2.tp T) p2 (o:=0) rfl;have c3:=q8 (w:=u2.tp T) p2 (o:=1) rfl;have c4:=q8 (w:=u2.tp T) p2 (o:=2) rfl;have c5:=q8 (w:=u2.tp T) p2 (o:=3) rfl;go_wp2_with (go_at_call 25;refine(q4h 0 _ _ ps b7 p b 0 (u2.tp T) (show ze 0 wq.heap.size (u2.tp T) (.slice yb ps.length yc) ps from ze.kept (w:=wq.tp u2.tape) (w':=u2) HP g2 (by simp)) t2 (by omega)).mono ?_;rintro e w3 ⟨ms,ml,mv,wv,Z,s2,rfl,t4,-,s1,n6,n3⟩;have N3:=qhw t4;have M3:=qhw n6;have W3:=qhw n3;have Z3:=qhw s1;have YD:=qhw s2;obtain⟨mb,mc,rfl,-,-⟩:=n6.cell;obtain⟨wb,wc,rfl,-,-⟩:=n3.cell;clear t4 n6 n3 s1 s2);have g9:b<u2.heap.size:=t2.lt;refine yS (λq=>(wq.tp q.tape).gb q none/\qQ q b 31/\q.heap[Z]?=some (.cells #[.slice yb ps.length yc,b7,.slice mb ms.length mc,ml,.slice wb (ms++[p]).length wc,ml] 24 (0,0))/\qn u2.heap.size q.heap.size q (.slice mb ms.length mc) ms/\qn u2.heap.size q.heap.size q (.slice wb (ms++[p]).length wc) (ms++[p])) ⟨qcd g2 (tpg N3.1) p5,N3.2,Z3,M3,W3⟩ λu3 hF=>?_;obtain⟨g3,t3,z3,m3,w3⟩:=hF;have E0:ms.length<=4:=YD.out.len;have E6:b≠Z:=λe=>by
  have h:=z3;obtain⟨_,_,_,_,_,_,E5,_⟩:=t3;rw[<- e,E5] at h;injection h with h;injection h with _ h _;exact absurd h (by decide)
 clear N3 M3 W3 Z3 g2 t2 a2 p2 c0 c1 c2 c3 c4 c5;refine EL.sp D r d λT=>?_;have c2:=q8 (w:=u3.tp T) z3 (o:=2) rfl;have c3:=q8 (w:=u3.tp T) z3 (o:=3) rfl;go_wp2_with (go_at_call 26;go_must (refine(q92 u2.heap.size _ _ l ms ml n b 31 (u3.tp T) ⟨_,_,rfl⟩ m3 g9 t3 (by omega) (by omega) (by have:=YD.out.l1;omega) (by have:=YD.out.l2;omega) (λq hq=>by have:=(YD.yok (Nat.le_succ_of_le (qhz 4))).each q hq;omega)).mono ?_);rintro e w4 ⟨m,S5,gc,ab,ac,Y,s5,rfl,s9,-,s3,v1,u8,v4,p7⟩;have N4:=qhw s9;have G4:=qhw v1;have A4:=qhw v4;have Y4:=qhw s3;have PK:=qhw s5;clear s9 v1 v4 s3 s5);have t7:m.length+1=(m++[n]).length:=by simp
 have n7:m.length<=20:=by have:=vZ ms.length m PK.nd PK.ok;omega
 rw[t7] at A4 Y4 p7;have t6:(m++[n]).length<=21:=by omega
 have t5:(ms++[p]).length<=21:=by simp;omega
 have g4:(wq.tp w4.tape).gb w4 none:=qcd g3 (tpg N4.1) p5;have f4:q3u Z Y w4:=q3u.of (blk (w:=u3.tp T) N4.1 (by simp;omega) z3) Y4 ((ze.kept (w:=wq.tp w4.tape) HP g4 (by simp)).mono (qhz _) g4.size)
  (((qn.kept (w:=u3.tp T) m3 N4.1 (λR e=>by cases e;exact .inl g9)).mono (qix _) N4.1.size).g) (((qn.kept (w:=u3.tp T) w3 N4.1 (λR e=>by cases e;exact .inl g9)).mono (qix _) N4.1.size).g) ⟨by omega,by omega,t5⟩
  ((qR.kept (w:=wq.tp w4.tape) HI g4 (by simp)).mono (qhz _) g4.size) ((G4.mono (qix _) (qhz _)).g) ((A4.mono (qix _) (qhz _)).g) ⟨by omega,by omega,t6⟩ ⟨t8,u8,p7⟩
 refine yS (λq=>(wq.tp q.tape).gb q none/\q3u Z Y q) ⟨g4,f4⟩ λu4 hF=>?_;clear g4 f4;obtain⟨g4,f4⟩:=hF;clear N4 G4 A4 Y4 PK YD HP HI z3 m3 w3 t3 g3 t6 t5 t7 p7 u8 t8 n7 E0 s7 s8 c2 c3 E6 g9 p5;refine EL.sp D r d λT=>?_;have F4:=qhw (show q3u Z Y (u4.tp T) from⟨f4.y,f4.l⟩);have G4:=qhw g4;clear f4 g4 hl;go_wp2;go_loopw [14] (λiv wr=>∃i:Nat,iv=.int .i64 i/\i<=3/\(u4.tp T).gb wr none) (λiv _=>(3 - qj7 iv).toNat)
 case atStart=>exact⟨0,rfl,by omega,qi2 _ _⟩
 case round=>
  obtain⟨i,rfl,hi,hG⟩:=hrel;have HG:=qhw hG;have X:=F4.out.kept hG;have HF:=qhw X;by_cases E1:i<3
  ·have⟨L,I,lm,s,c0,c1,hq,N7⟩:=X.y i E1;have S4:(i:Int)<3:=by omega
   have HQ:=qhw hq;clear hG X hq;go_upto_region 10 with(go_at_call 27;refine(q36 0 _ _ s lm wr ⟨_,rfl,HQ⟩ (qhz _) (by omega)).mono ?_;rintro e w5 ⟨ov,rfl,v0,n4⟩;have G5:=qhw v0;have O5:=qhw n4;obtain⟨ob,oc,rfl,-,-⟩:=n4.cell;clear v0 n4);obtain⟨O,hO⟩:∃O,O=w5.heap.size:=⟨_,rfl⟩;rw[<- hO];have M:=G5.out.t (qhx w5 (.cells #[.slice ob s.length oc,lm] 24) none);refine jK (λu=>(u4.tp T).gb u none/\u.heap[O]?=some (.cells #[.slice ob s.length oc,lm] 24 (0,0))/\qn 0 u.heap.size u (.slice ob s.length oc) s/\u.cell? ⟨Z,i*2,none⟩=some (.slice L s.length I)/\u.cell? ⟨Z,i*2+1,none⟩=some (.int .i64 lm)/\ze 0 u.heap.size u (.slice L s.length I) s)
    ⟨HG.t M,by rw[hO];exact qhH _ _,(O5.alloc _).mono (qix _) (by rw[qi6];omega),M.cl c0,M.cl c1,(HQ.kept M).mono (qhz _) M.size⟩ (λu hF=>?_)
   obtain⟨gu,ou,pu,c0,c1,qu⟩:=hF;have⟨GU,OU,PU,QU⟩:=zI gu ou pu qu;have FU:=qhw (F4.kept gu);clear G5 O5 M hO HQ HG HF gu ou pu qu;go_wp2;go_loopw [16] (λkv wr=>∃k:Nat,kv=.int .i64 k/\k<=3/\u.gb wr none) (λkv _=>(3 - qj7 kv).toNat)
   case atStart=>exact⟨0,rfl,by omega,qi2 _ _⟩
   case round=>
    obtain⟨k,rfl,hk,hG⟩:=hrel;have HG:=qhw hG;have X:=FU.out.kept hG;have d0:=q8 (bk hG OU) (o:=0) rfl;have d1:=q8 (bk hG OU) (o:=1) rfl;have e0:=hG.cl c0;have e1:=hG.cl c1;have PW:=qhw ((PU.kept hG).mono (qhz _) hG.size);have QW:=qhw ((QU.kept hG).mono (qhz _) hG.size);by_cases E2:k<3
    ·have⟨xb,xc,xs,x0,hx,N5,D9⟩:=X.l k E2;have S3:(k:Int)<3:=by omega
     have F:=qhw hx;clear hG X hx c0 c1;go_upto_region 14 with(go_at_call 28;refine(q9l 0 _ _ xs wr F (qhz _) (by omega)).mono ?_;rintro e w6 ⟨kv,rfl,u9,n8⟩;have n9:=qd.own n8 (by omega);obtain⟨kb,kc,rfl,-,-⟩:=n9.cell;have t9:xs.length<=kc:=q2G n8;have G6:=qhw u9;have K6:=qhw n9;clear u9 n8 n9);refine jK (λv=>wr.gb v none/\qd 0 v.heap.size v (.slice kb xs.length kc) xs) ⟨G6,K6.mono (qix _) (qhz _)⟩ (λv hF=>?_);obtain⟨gv,kv⟩:=hF;have d2:=gv.cl d0;have d3:=gv.cl d1;have e2:=gv.cl e0;have e3:=gv.cl e1;have x1:=gv.cl x0;have u7:=HG.out.t gv;have⟨GV,KV⟩:=qF u7 kv;have PV:=qhw ((PW.kept gv).mono (qhz _) gv.size);have QV:=qhw ((QW.kept gv).mono (qhz _) gv.size);have XV:=qhw ((F.kept gv).mono (qhz _) gv.size);clear G6 K6 gv kv u7 d0 d1 e0 e1 x0 HG PW QW F;have⟨er,sv,sa,sb,sc,cl,ol,h8⟩:=qdc.of (lm:=lm) PV QV KV XV (by omega) t9 D9;have E8:=qhw h8;have c:=qhw (show ∀w',v.gb w' none->v.gb w' none/\w'.cell? O=some (.slice ob s.length oc)/\w'.cell? ⟨O,1,none⟩=some (.int .i64 lm)/\w'.cell? ⟨Z,i*2,none⟩=some (.slice L s.length I)/\w'.cell? ⟨Z,i*2+1,none⟩=some (.int .i64 lm)/\w'.cell? ⟨Y,k,none⟩=some (.slice xb xs.length xc) from λw' h=>⟨h,h.cl d2,h.cl d3,h.cl e2,h.cl e3,h.cl x1⟩);have L0:=qhw λ(W:qhy) (h:v.gb W none)=>qie ((KV.kept h).mono (qhz _) h.size:qd 0 W.heap.size W (.slice kb xs.length kc) xs) ((XV.kept h).mono (qhz _) h.size:qR 0 W.heap.size W (.slice xb xs.length xc) xs);clear h8 PV QV KV XV;go_upto_region 15 with(go_at_call 73;refine(E8.c73 _ (qi2 _ _)).mono ?_;rintro e w7 ⟨ub,uc,rfl,S,e5⟩;have G7:=qhw S;have B7:=qhw e5;clear S e5);have BU:=qhw λ(W:qhy) (h:w7.gb W none)=>((B7.kept h).mono (qhz _) h.size:qd 0 W.heap.size W (.slice ub cl.length uc) cl);clear d2 d3 e2 e3 x1 B7;have a:=qhw (q9 w7 none);refine qr 13 (λw'=>v.gb w' none/\w'.cell? O=some (.slice ob s.length oc)/\w'.cell? ⟨O,1,none⟩=some (.int .i64 lm)/\w'.cell? ⟨Z,i*2,none⟩=some (.slice L s.length I)/\w'.cell? ⟨Z,i*2+1,none⟩=some (.int .i64 lm)/\w'.cell? ⟨Y,k,none⟩=some (.slice xb xs.length xc)) (by kernel_rfl) (by kernel_rfl) (c _ (G7.t a)) (λhHeld=>?_);simp only[qi3,qi7,qii,qiB,qib,qij,qik,qiq,qin,qi9];refine tk 0 (h:=tk 1 (h:=tk 2 (h:=tk 3 (h:=tk 4 (h:=tk 5 (h:=tk 6 (h:=tk 7 (h:=?_))))))));try go_frame
     refine rdc 8 λK hK=>?_;go_simp;go_at_call 76;refine(E8.c76 _ (G7.t a)).mono ?_;rintro e w8 ⟨vb,vc,rfl,Q,e4⟩;replace a:=qhw (a.t Q);have BV:=qhw e4;clear Q e4;refine hK.out _ _ (c _ (G7.t a)) (λhHeld=>?_);refine tk 9 (h:=tk 10 (h:=tk 11 (h:=tk 12 (h:=?_))));try go_frame
     refine⟨by kernel_rfl,?_⟩;simp only[qig,qit];clear hHeld;have CV:=qhw (qie (BU _ a) BV);have GT:=qhw (G7.t a);clear BU BV G7 a;go_upto_region 16 with(fail);refine jK (λq=>v.gb q none/\qd 0 q.heap.size q (.slice ub cl.length uc) cl/\qd 0 q.heap.size q (.slice vb cl.length vc) cl) ⟨GT,CV⟩ (λq hF=>?_);obtain⟨gq,bu,bv⟩:=hF;have GQ:=qhw gq;have BU:=qhw λ(W:qhy) (h:q.gb W none)=>qie ((bu.kept h).mono (qhz _) h.size:qd 0 W.heap.size W (.slice ub cl.length uc) cl) ((bv.kept h).mono (qhz _) h.size:qd 0 W.heap.size W (.slice vb cl.length vc) cl);obtain⟨-,d2,d3,-,-,-⟩:=c.out q gq;clear GT CV gq bu bv;go_upto_region 17 with(go_at_call 37;refine(E8.c37 _ GQ).mono ?_;rintro e w7 ⟨rfl,S⟩;have G7:=qhw S;clear S);clear d2 d3;have a:=qhw (q9 w7 none);refine qr 13 (λw'=>v.gb w' none/\w'.cell? O=some (.slice ob s.length oc)/\w'.cell? ⟨O,1,none⟩=some (.int .i64 lm)/\w'.cell? ⟨Z,i*2,none⟩=some (.slice L s.length I)/\w'.cell? ⟨Z,i*2+1,none⟩=some (.int .i64 lm)/\w'.cell? ⟨Y,k,none⟩=some (.slice xb xs.length xc)) (by kernel_rfl) (by kernel_rfl) (c _ (GQ.t (G7.t a))) (λhHeld=>?_);simp only[qi3,qi7,qii,qiB,qib,qij,qik,qiq,qin,qi9];refine tk 0 (h:=tk 1 (h:=tk 2 (h:=tk 3 (h:=tk 4 (h:=tk 5 (h:=tk 6 (h:=tk 7 (h:=?_))))))));try go_frame
     refine rdc 8 λK hK=>?_;go_simp;go_at_call 77;refine(E8.c77 _ (GQ.t (G7.t a))).mono ?_;rintro e w8 ⟨rfl,Q⟩;replace a:=qhw (a.t Q);clear Q;refine hK.out _ _ (c _ (GQ.t (G7.t a))) (λhHeld=>?_);refine tk 9 (h:=tk 10 (h:=tk 11 (h:=tk 12 (h:=?_))));try go_frame
     refine⟨by kernel_rfl,?_⟩;simp only[qig,qit];clear hHeld;go_upto_region 18 with(fail);refine jK (λw=>q.gb w none) (G7.t a) (λq2 hg=>?_);have q3:=qhw (BU q2 hg);have L2:=qhw (GQ.t hg);clear BU G7 a GQ hg;go_upto_region 20 with(go_at_call 31;refine(jt 0 _ 0 _ _ _ cl cl _ q3.1 q3.2).mono ?_;rintro e w9 ⟨rfl,P⟩;rw[decide_eq_true rfl];have G9:=qhw (L2.t P);clear P);obtain⟨-,d2,d3,-,-,-⟩:=c.out w9 G9;clear q3;go_upto_region 21 with(go_at_call 36;refine(E8.c36 _ G9).mono ?_;rintro e r6 ⟨rfl,V⟩;have q1:=qhw (G9.t V);clear V);clear d2 d3;have⟨C,z,hC,l7,U,m4⟩:=q2l r6 (.cells #[sa,sb] 26);rw[<- hC,<- l7];have A7:=qhw m4;have B:=qhw (q1.t U);clear hC l7 U m4;have a:=qhw (q9 z none);go_cut [21,27] from 135 to 145 (λC7 C6 wx=>∃D,C7=.int .i64 sc/\C6=.pointer (some ⟨D,0,none⟩)/\z.gb wx none/\wx.heap[D]?=some (.cells #[sa,sb] 26 (0,0)))
     case first=>
      refine qr 14 (λw'=>v.gb w' none/\w'.cell? O=some (.slice ob s.length oc)/\w'.cell? ⟨O,1,none⟩=some (.int .i64 lm)/\w'.cell? ⟨Z,i*2,none⟩=some (.slice L s.length I)/\w'.cell? ⟨Z,i*2+1,none⟩=some (.int .i64 lm)/\w'.cell? ⟨Y,k,none⟩=some (.slice xb xs.length xc)) (by kernel_rfl) (by kernel_rfl) (c _ (B.t a)) (λhHeld=>?_);simp only[qi3,qi7,qii,qiB,qib,qij,qik,qiq,qin,qi9];refine tk 0 (h:=tk 1 (h:=tk 2 (h:=tk 3 (h:=tk 4 (h:=tk 5 (h:=tk 6 (h:=tk 7 (h:=?_))))))));try go_frame
      refine rdy [8,12] ?_;refine cns 8 (λK hK=>?_) ?_
      ·skip;go_simp;go_at_call 78;refine(E8.c78 _ (B.t a)).mono ?_;rintro e b0 ⟨rfl,H⟩;replace a:=qhw (a.t H)
       (try replace N:=qhw (bk H N))
       clear H;refine hK.out _ _ (c _ (B.t a)) (λhHeld=>?_);refine tk 9 (h:=tk 10 (h:=tk 11 (h:=?_)));try go_frame
       refine rdc 12 λK hK=>?_;go_simp;have F:=qhw (show z.gb (b0.alloc (.cells #[.int .i64 0,.int .i64 0] 26)) none/\(b0.alloc (.cells #[.int .i64 0,.int .i64 0] 26)).heap[b0.heap.size]?=some (.cells #[.int .i64 0,.int .i64 0] 26 (0,0))/\z.heap.size<=b0.heap.size from yP a 26 _);generalize b0.alloc (.cells #[.int .i64 0,.int .i64 0] 26)=WN at F ⊢;generalize b0.heap.size=D at F ⊢;replace a:=qhw F.1;have N:=qhw F.2.1;have q0:=qhw F.2.2;clear F;refine hK.out _ _ (c _ (B.t a)) (λhHeld=>?_);refine rdc 13 λK hK=>?_;have t0:=qj N (o:=0);have t1:=qj N (o:=1);have c0:=q8 N (o:=0) rfl;have c1:=q8 N (o:=1) rfl;go_simp;have F:=qhw (q6r (u:=.int .i64 sa) (v:=.int .i64 sb) a N q0);replace a:=qhw F.1;replace N:=qhw F.2;clear t0 t1 c0 c1 F;refine hK.out _ _ (c _ (B.t a)) (λhHeld=>?_);try go_frame
       refine⟨by kernel_rfl,?_⟩;simp only[qig,qit];clear hHeld;go_wp2;go_meet;exact⟨_,rfl,rfl,a,N⟩
      refine cns 12 (λK hK=>?_) ?_
      ·skip;go_simp;have F:=qhw (show z.gb ((z.alloc (.cells #[.int .i64 0,.int .i64 0] 26)).drew) none/\((z.alloc (.cells #[.int .i64 0,.int .i64 0] 26)).drew).heap[z.heap.size]?=some (.cells #[.int .i64 0,.int .i64 0] 26 (0,0))/\z.heap.size<=z.heap.size from yP a 26 _);generalize (z.alloc (.cells #[.int .i64 0,.int .i64 0] 26)).drew=WN at F ⊢;replace a:=qhw F.1;have N:=qhw F.2.1;have q0:=qhw F.2.2;clear F;refine hK.out _ _ (c _ (B.t a)) (λhHeld=>?_);refine rdc 8 λK hK=>?_;go_simp;go_at_call 78;refine(E8.c78 _ (B.t a)).mono ?_;rintro e b0 ⟨rfl,H⟩;replace a:=qhw (a.t H)
       (try replace N:=qhw (bk H N))
       clear H;refine hK.out _ _ (c _ (B.t a)) (λhHeld=>?_);refine tk 9 (h:=tk 10 (h:=tk 11 (h:=?_)));try go_frame
       refine rdc 13 λK hK=>?_;have t0:=qj N (o:=0);have t1:=qj N (o:=1);have c0:=q8 N (o:=0) rfl;have c1:=q8 N (o:=1) rfl;go_simp;have F:=qhw (q6r (u:=.int .i64 sa) (v:=.int .i64 sb) a N q0);replace a:=qhw F.1;replace N:=qhw F.2;clear t0 t1 c0 c1 F;refine hK.out _ _ (c _ (B.t a)) (λhHeld=>?_);try go_frame
       refine⟨by kernel_rfl,?_⟩;simp only[qig,qit];clear hHeld;go_wp2;go_meet;exact⟨_,rfl,rfl,a,N⟩
      exact qN.nil
     case rest=>
      obtain⟨D,rfl,rfl,hg,hD⟩:=hcut;have x8:=qhw hD;have A6:=qhw (bk hg A7);have c8:=qhw (B.t hg);obtain⟨-,d2,d3,-,-,-⟩:=c.out wc c8;clear hg hD A7 a;go_upto_region 23 with(go_at_call 75;refine(E8.c75 _ c8).mono ?_;rintro e w7 ⟨r8,r7,rfl,S,e5⟩;have G7:=qhw S;have B7:=qhw e5;clear S e5);have BU:=qhw λ(W:qhy) (h:w7.gb W none)=>((B7.kept h).mono (qhz _) h.size:qd 0 W.heap.size W (.slice r8 ol.length r7) ol);clear d2 d3 B7;have a:=qhw (q9 w7 none);refine qr 13 (λw'=>v.gb w' none/\w'.cell? O=some (.slice ob s.length oc)/\w'.cell? ⟨O,1,none⟩=some (.int .i64 lm)/\w'.cell? ⟨Z,i*2,none⟩=some (.slice L s.length I)/\w'.cell? ⟨Z,i*2+1,none⟩=some (.int .i64 lm)/\w'.cell? ⟨Y,k,none⟩=some (.slice xb xs.length xc)) (by kernel_rfl) (by kernel_rfl) (c _ (c8.t (G7.t a))) (λhHeld=>?_);simp only[qi3,qi7,qii,qiB,qib,qij,qik,qiq,qin,qi9];refine tk 0 (h:=tk 1 (h:=tk 2 (h:=tk 3 (h:=tk 4 (h:=tk 5 (h:=tk 6 (h:=tk 7 (h:=?_))))))));try go_frame
      refine rdc 8 λK hK=>?_;go_simp;go_at_call 79;refine(E8.c79 _ (c8.t (G7.t a))).mono ?_;rintro e w8 ⟨C5,C4,rfl,Q,e4⟩;replace a:=qhw (a.t Q);have BV:=qhw e4;clear Q e4;refine hK.out _ _ (c _ (c8.t (G7.t a))) (λhHeld=>?_);refine tk 9 (h:=tk 10 (h:=tk 11 (h:=tk 12 (h:=?_))));try go_frame
      refine⟨by kernel_rfl,?_⟩;simp only[qig,qit];clear hHeld;have k0:=qhw (G7.t a);have z4:=qhw (bk k0 A6);have z2:=qhw (bk k0 x8);have CV:=qhw (qie (BU _ a) BV);have GT:=qhw (c8.t k0);clear BU BV G7 a c8 k0 A6 x8;go_upto_region 24 with(fail);refine jK (λq=>v.gb q none/\(qd 0 q.heap.size q (.slice r8 ol.length r7) ol/\qd 0 q.heap.size q (.slice C5 ol.length C4) ol)/\q.heap[C]?=some (.cells #[sa,sb] 26 (0,0))/\q.heap[D]?=some (.cells #[sa,sb] 26 (0,0))) ⟨GT,CV,z4,z2⟩ (λq hF=>?_);obtain⟨gq,⟨bu,bv⟩,b1,b2⟩:=hF;obtain⟨-,d2,d3,e2,e3,x1⟩:=c.out q gq;have x4:=qhw λ(W:qhy) (h:q.gb W none)=>qie (h.cl x1) (L0 W (gq.t h));have z0:=q8 b1 (o:=0) rfl;have z1:=q8 b1 (o:=1) rfl;have y0:=q8 b2 (o:=0) rfl;have y1:=q8 b2 (o:=1) rfl;have⟨BU,BV,GQ⟩:=qY bu bv gq;clear GT CV z4 z2 gq bu bv b1 b2 d2 d3 e2 e3;have G3:∀w,(binOp .neq 26 (.agg #[sa,sb]) (.agg #[sa,sb])).run Ya w=.ok (.bool false) w:=λw=>by rw[q5u];simp
      have G8:=ZN;go_wp2_with (fail);go_at_call 31;refine(jt 0 _ 0 _ _ _ ol ol _ BU BV).mono ?_;rintro e w9 ⟨rfl,P⟩;rw[decide_eq_true rfl];have⟨x9,k9,j9⟩:=x4.out w9 P;have⟨K9,X9,G9⟩:=qY k9 j9 P;clear P k9 j9 x1 z0 z1 y0 y1 x4 BU BV G3 G8;go_wp2_with (fail);go_at_call 31;refine(q9g 0 _ 0 _ _ _ xs xs _ K9.g X9).mono ?_;rintro e r6 ⟨rfl,V⟩;rw[decide_eq_true rfl];have q1:=qhw V;clear V;go_wp2;have GZ:=qhw (GV.t (GQ.t (G9.t q1)));go_roundw
      case rel=>exact⟨k+1,by simp,by omega,GZ⟩
      case measure=>simp[qj7];omega
    ·obtain rfl:k=3:=by omega
     clear hG X;go_upto_region 26 with(fail);have x5:=qhw (show ∀w' b6,wr.gb w' none/\w'.cell? O=some (.slice ob s.length oc)/\w'.cell? ⟨O,1,none⟩=some (.int .i64 lm)/\w'.cell? ⟨Z,i*2,none⟩=some (.slice L s.length I)/\w'.cell? ⟨Z,i*2+1,none⟩=some (.int .i64 lm)->w'.gb b6 none->wr.gb b6 none/\b6.cell? O=some (.slice ob s.length oc)/\b6.cell? ⟨O,1,none⟩=some (.int .i64 lm)/\b6.cell? ⟨Z,i*2,none⟩=some (.slice L s.length I)/\b6.cell? ⟨Z,i*2+1,none⟩=some (.int .i64 lm) from λw' b6 h h'=>⟨h.1.t h',h'.cl h.2.1,h'.cl h.2.2.1,h'.cl h.2.2.2.1,h'.cl h.2.2.2.2⟩);refine qr 5 (λw'=>wr.gb w' none/\w'.cell? O=some (.slice ob s.length oc)/\w'.cell? ⟨O,1,none⟩=some (.int .i64 lm)/\w'.cell? ⟨Z,i*2,none⟩=some (.slice L s.length I)/\w'.cell? ⟨Z,i*2+1,none⟩=some (.int .i64 lm)) (by kernel_rfl) (by kernel_rfl) (x5 wr wr.drew ⟨qi2 _ _,d0,d1,e0,e1⟩ (q9 wr none)) (λhHeld=>?_);simp only[qi3,qi7,qii,qiB,qib,qij,qik,qiq,qin,qi9];refine tk 0 (h:=tk 1 (h:=tk 2 (h:=tk 3 (h:=tk 4 (h:=?_)))));try go_frame
     refine⟨by kernel_rfl,?_⟩;simp only[qig,qit];have PZ:=qhw ((PW.kept hHeld.1).mono (qhz _) hHeld.1.size);have QZ:=qhw ((QW.kept hHeld.1).mono (qhz _) hHeld.1.size);have GH:=qhw hHeld.1;clear hHeld x5 PW QW;go_wp2_with (go_at_call 32;refine(q0z 0 _ 0 _ _ _ s s lm lm _ ⟨_,rfl,PZ.g⟩ ⟨_,rfl,QZ⟩).mono ?_;rintro e z ⟨rfl,U⟩;rw[decide_eq_true ⟨rfl,rfl⟩];have B:=qhw U;clear U);have GZ:=qhw (GU.t (HG.t (GH.t B)));go_roundw
     case rel=>exact⟨i+1,by simp,by omega,GZ⟩
     case measure=>simp[qj7];omega
  ·obtain rfl:i=3:=by omega
   clear hG X;go_wp2;refine yS (λq=>(wq.tp q.tape).gb q none) (gb G4 (tpg HG)) λu6 g6=>?_;refine EL.seq D r d ?_;refine EL.region D r d ?_;simp only[qiu,qi3,qi7,qii,qib,qiz,qj9];refine EL.enter D r d (fk:=23) (args:=#[]) rfl rfl (λT=>by rw[qnj (f:=23) rfl Tp.x23 (by kernel_rfl) rfl];walk_nrm) (zh 23 (by decide)) ?_;refine qha D s6 u0 u5 ⟨_,Tp.x20,qp7⟩ ?_ _ [qk 20] r d λv u hR=>?_
   ·obtain⟨cs,e,g,h0,p3⟩:=h0;exact⟨cs,e,g,blk (w:=wq.tp u6.tape) g6 (by simp) h0,p3⟩
   obtain⟨rfl,P⟩:=hR;rw[qkm];walk_nrm;refine EL.list D r d [1] [_] (rest:=[]) rfl λT4=>?_;go_wp2;refine EL.tape (wq:=u) ?_ T4;refine EL.region_end D r d ?_;refine EL.retS D r d ?_;exact EL.last l8 rfl rfl qp7 rfl rfl d9
end
end
section
open Go Go.RowKit Go.Co Go.Sim Go.Conc Go.ConcN Go.ChangeShapes Go.WideShapes
def Tryz.own:ownKnob Tryz.prog.godebug=none:=by kernel_rfl
def Tryz.laidOut:laidOutB qi8=true:=by kernel_rfl
def q86:Tryz.prog.globals.size=0:=by kernel_rfl
def qb0:(begin qi8 (λ_ _=>0) default).world.heap[0]?=some (.cells ((qlH Tryz.prog.types.size).map λt=>.int .u64 (Int.ofNat t)) 0 (0,0)):=by kernel_rfl
def qeE(w:qhy):Prop:=∃a e f,w.heap[0]?=some (.cells a e f)/\∀(i:Nat) v,a[i]?=some v->∃k m,v=.int k m
def qgC{w:qhy}(h:w.ShapedOpen qi8):qeE w:=by
 have⟨o,e,d,c,b⟩:=h.2 0 (by rw[q86];exact qhz _) (qhB.1 qb0).1;rw[qb0] at c;cases c;rw[q86,if_neg (by decide)] at b;subst b;refine⟨_,_,_,d,λi v a=>?_⟩;rw[qo6] at a;cases hi:(qlH Tryz.prog.types.size)[i]? with
 | none=>rw[hi] at a;cases a
 | some x=>rw[hi] at a;cases a;exact⟨_,_,rfl⟩
def qgs:@Two (JS Ya qi8 ls λ_=>False) Ya qi8 :=
 @Two.mk (JS Ya qi8 ls λ_=>False) _ _ (qf6 _) ⟨⟨JS Ya Ya ls λ_=>False⟩,up _,qf5 _⟩ hrf qaF
end
end Go.Proofs.YtidgnkmjgioapaaGreat
