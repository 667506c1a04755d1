/-
  Part 6 of the proof. gladstonelaw04.PileCounts answers true for every yard, parcel and list of numbers that the statement takes, and leaves its arguments as they were. No conditions.
-/
import Derived.Test.YtidgnkmjgioapaaGreatJ2
import Derived.Test.YtidgnkmjgioapaaGreatRows
import Derived.Conc.LeavingOf
import Derived.Conc.HoldsTime
import Derived.ChangeSame
import Derived.ChangeVars
import Derived.JoinedOf
import Derived.RowKit
import Derived.RowKitTokens
import Derived.LaidHandle
import Derived.ProofKit
set_option maxRecDepth 100000
set_option maxHeartbeats 8000000
set_option linter.all false
open Array renaming getElem?_eq_some_iff->qhs,getElem?_map->qo4,range->qlE,replicate_succ->qie,replicate_zero->qif
open Bool renaming and_eq_true->qic
open Classical renaming byContradiction->qj6,em->qlC
open Go renaming Addr->qiG,Calls->qis,Oper->qjn,Operand->qiy,Program->qhF,TypeId->qi4,TypeInfo->qlD,Value->qhu,World->qhr,callsIn_of_wp_marks->qnC,callsIn_wide->qjA,execOp->qkA,grownBy_putObj'->ql8,heap_alloc_new->qhA,info_parts->qjx,maxLen->qlg,results->qke,run_takeDeferred->qnA,typeInfo->qlx,undef->qhx,wpList_append_own_at->qqm,yielded->qjt
open Go.Builtin renaming append_->ql7,firstCells->qo3
open Go.Conc renaming base->qij,run_call_body->qne
open Go.Frame renaming enter->qiz,finish_at->qkj
open Go.IntWalk renaming i64_in->qin
open Go.Lib renaming hid->qhp
open Go.Proofs.Tryz renaming f11->qol,func11->qp4,prog->qi2
open Go.Region renaming wanted->qip
open Go.Result renaming andThen_ok->qjl
open Go.RowKit renaming intOf->qiF
open Go.RowKit.Below renaming heap_setCell->qj4,refl->qns
open Go.Sem renaming run_bind->qjo,run_pure->qmo
open Go.Value renaming int->qid,oneCell'->qjD,slice->qjc
open Go.World renaming grownBy_alloc->qhq,news_of_block->qje,ownsRow_nil->qjF,setCell->qk2,size_alloc->qhH
open Go.World.grownBy renaming andThen->qkm,refl->qhD
open List renaming all_eq_true->qiB,append_assoc->qk8,append_toArray->ql1,cons_append->qi7,drop_eq_getElem_cons->qkd,drop_eq_nil_of_le->qkr,drop_length->qpz,drop_succ_cons->qig,drop_zero->qit,eq_nil_of_length_eq_zero->qja,flatMap_append->qp7,foldl_append->qms,foldl_cons->qln,getElem?_append_left->qir,getElem?_append_right->qjv,getElem?_drop->qlA,getElem?_eq_getElem->qhz,getElem?_map->qjE,getElem_mem->qmB,length_append->qj1,length_cons->qhE,length_drop->qlc,length_filter_le->qkb,length_map->qkk,length_nil->qi1,length_range->qni,length_take->qky,map_append->qk1,map_cons->qll,map_nil->qmq,map_toArray->qmc,mem_cons->qjr,mem_filter->qmk,mem_flatMap->qmE,mem_map->qlp,mem_of_getElem?->qi9,mem_range->qjC,nil_append->qii,perm_middle->qry,push_toArray->qio,range->qil,range'->qmG,range'_1_concat->qqn,range_succ->qlo,size_toArray->qim,takeWhile_append_dropWhile->qor,take_add_one->qj7,take_length->qjs
open List.range renaming loop->qj2
open Nat renaming add_assoc->qnb,le_of_eq->qlB,le_refl->qhv,le_trans->qhB,lt_of_lt_of_le->qi0,reduceAdd->qib,reduceSub->qiA,zero_add->qi6,zero_le->qiu
open Option renaming getD_some->qhC,map_some->qjh
open Prod renaming fst->qld
namespace Go.Proofs.YtidgnkmjgioapaaGreat
section
open Go.RowKit
def qT.drop{g b B o n c c':Nat}{w:qhr}{l:List Int}(h:qT g b w (.slice (some ⟨B,o,none⟩) l.length c) l)(k:Nat)(z:k<=l.length)(j:n=l.length - k):qT g b w (.slice (some ⟨B,o+k,none⟩) n c') (l.drop k):=by
 obtain⟨base,v,e,y,p⟩:=h;injection e with f _ _;subst f;have a:(l.drop k).length=n:=by simp;omega
 refine⟨some ⟨B,o+k,none⟩,c',by rw[a],by rw[a];omega,λd=>?_⟩;have q:0<n:=Nat.pos_of_ne_zero λe=>d (by rw[<- List.length_eq_zero_iff];omega);have⟨A,x,f,u,t,s,r⟩:=p (by intro e;rw[e] at j;simp at j;omega);cases f;refine⟨B,o+k,rfl,u,t,s,λi b=>?_⟩;rw[a] at b;rw[qnb,r (k+i) (by omega),qlA]
def ju(y:Int)(L:List (List Int)):List (List Int):=L.map λl=>y::l
def q18(y:Int)(L:List (List Int))(x:Nat)(l:List Int)(h:L[x]?=some l):ju y (L.take (x+1))=ju y (L.take x)++[y::l]:=by
 unfold ju;rw[qj7,h];simp
def Y2{P:qhF}{t a e:qi4}{i:qlD}{g n c h:Nat}{w:qhr}(b:P.underlying t=some (.slice e))(d:P.info? e=some i)(f:n<=c):(ql7 #[t,t] a #[.slice (some g) n c,.slice none 0 h]).run P w=.ok (.slice (some g) n c) w:=by
 simp[ql7,run_underlying b,sizeOf,qlx,d,Builtin.lenOf,qo3,storeCells,f]
def kE{d:Array qjn}{o:qjn}{a:Act}{w:qhr}{K:Act->qhr->Prop}{Q:Exit->Act->qhr->Prop}{E:Prop}(s x:qiy){F I L g n c q:Nat}{r:Option qiG}{l:List Int}{t:List qhu}(b:w.ownsRow L 3 1 (.slice (some g) n c) n t)(C:qT F I w (.slice r l.length q) l)(M:L<=w.heap.size)(S:l.length<=1000)(B:n<=1000)(h:∀i j k,k.ownsRow L 3 1 (.slice (some ⟨i,0,none⟩) (n+l.length) j) (n+l.length) (t++l.map (qid .i64))->w.gb k (some g)->K (a.put o.dst (.slice (some ⟨i,0,none⟩) (n+l.length) j)) k)(H:0<n:=by omega)(hgd:qip o (qjt d a.tmps)=true:=by kernel_rfl)(ho:o.op=.call { callee:=.builtin .append,args:=#[s,x],argTypes:=#[29,29] }:=by rfl)(hs:a.eval s=.slice (some g) n c:=by rfl)(hx:a.eval x=.slice r l.length q:=by rfl) :if qip o (qjt d a.tmps)=true then Oper.wp Ya o a w K Q else E:=by
 have⟨G,f,z,y,v⟩:=qjx Tp.info3p;rcases r with _ | R
 ·obtain rfl:l=[]:=qj6 λB=>by obtain⟨_,_,e,-,p⟩:=C;cases e;have⟨_,_,e,_⟩:=p B;cases e
  rw[if_pos hgd];unfold Oper.wp qkA;simp only[ho,resolve,invoke,builtin,qjo,qmo,qjl,qmc,qll,qmq,hs,hx,qi1,Y2 Tp.und29' f (Yp b)];exact h _ _ _ (by simpa using b) (qhD _ _)
 ·refine vK hgd s x 29 ho L 3 G _ 1 8 Tp.und29' f z y v rfl (by decide) _ n t hs b R l.length q (l.map (qid .i64)) hx (by simp) (qeA C) (by intro u A;simp at A;obtain⟨x,_,rfl⟩:=A;rfl) (by unfold qlg;omega) (by omega) M λD k p N=>?_;obtain⟨i,j,rfl⟩:∃i j,D=.slice (some ⟨i,0,none⟩) (n+l.length) j:=by
   rcases p.2 with⟨rfl,T⟩ | ⟨g,P,O,rfl,_⟩
   ·omega
   ·exact⟨_,_,rfl⟩
  exact h _ _ _ p N
def qT.dropE{a d c e:Nat}{b:Option qiG}{w:qhr}{l:List Int}(g:qT a d w (.slice b l.length c) l)(k:Nat)(f:l.length<=k):qT a d w (.slice b (l.length - k) e) (l.drop k) :=
 ⟨b,e,by rw[qlc],by rw[qlc];omega,λh=>absurd (qkr f) h⟩
def zE:List Int->Nat->List (List Int)
 | _,0=>[[]]
 | l,k+1=>(qil l.length).flatMap λi=>ju (l[i]?.getD 0) (zE (l.drop (i+1)) k)
def Q0:Nat->List Int->List (List Int)
 | 0,_=>[[]]
 | f+1,l=>(qil l.length).flatMap λi=>ju (l[i]?.getD 0) (Q0 f (l.filter λz=>z != l[i]?.getD 0))
def q4D{g:Nat->List (List Int)}{f:Nat->Int}{n m k:Nat}(h:∀i,∀q∈g i,q.length<=k):∀q∈(qil n).flatMap (λi=>ju (f i) (g i)),q.length<=k+1:=λq a=>by
 have⟨i,_,c⟩:=qmE.1 a;obtain⟨p,b,rfl⟩:=qlp.1 c;simpa using h i p b
def qgq{n m k:Nat}(a:n<=5)(hm:m<=5 ^ k):n*m<=5 ^ (k+1):=by rw[Nat.pow_succ,Nat.mul_comm];exact Nat.mul_le_mul hm a
def xy:∀k (l:List Int),l.length<=5->(zE l k).length<=5 ^ k/\∀q∈zE l k,q.length<=k
 | 0,_,_=>by simp[zE]
 | k+1,l,b=>by
  have c:∀i:Nat,(ju (l[i]?.getD 0) (zE (l.drop (i+1)) k)).length<=5 ^ k:=λi=>by rw[ju,qkk];exact(xy k _ (by simp;omega)).1
  have a:=Qv (λ(i:Nat)=>ju (l[i]?.getD 0) (zE (l.drop (i+1)) k)) (5 ^ k) c (qil l.length);rw[qni] at a;exact⟨qhB a (qgq b (qhv _)),q4D (m:=0) λi=>(xy k (l.drop (i+1)) (by simp;omega)).2⟩
def Qm:∀k (l:List Int),l.length<=5->(Q0 k l).length<=5 ^ k/\∀q∈Q0 k l,q.length<=k
 | 0,_,_=>by simp[Q0]
 | k+1,l,a=>by
  have c:∀y:Int,(l.filter λz=>z != y).length<=5:=λy=>qhB (qkb _ _) a;have d:∀i:Nat,(ju (l[i]?.getD 0) (Q0 k (l.filter λz=>z != l[i]?.getD 0))).length<=5 ^ k:=λi=>by rw[ju,qkk];exact(Qm k _ (c _)).1
  have b:=Qv (λ(i:Nat)=>ju (l[i]?.getD 0) (Q0 k (l.filter λz=>z != l[i]?.getD 0))) (5 ^ k) d (qil l.length);rw[qni] at b;exact⟨qhB b (qgq a (qhv _)),q4D (m:=0) λi=>(Qm k _ (c _)).2⟩
def QJ{k:Nat}(h:k<=5):5 ^ k<=3125:=Nat.pow_le_pow_right (by decide) h
def YY:∀k:Nat,k<=5->∀(lo hi:Nat) (b:Option qiG) (c:Nat) (l:List Int) (w:qhr),qT lo hi w (.slice b l.length c) l->l.length<=5->l.length<=c ->qis Ya 86 #[.slice b l.length c,k] w λe D=>∃v,e=.returned v/\w.gb D none/\qQ w.heap.size D v (zE l k)
 | 0,_,_,_,_,_,l,w,_,_,_=>by
  go_enter Tp.x86,Tryz.ntmps86;go_wp2;go_ret;exact⟨_,rfl,qhq _ _ none,qQ.one w⟩
 | k+1,hk,lo,a6,b,c,l,w,hI,hl,s4=>by
  have⟨i0,s7,r7,r6,r5⟩:=qjx Tp.info3p;have⟨j0,k5,h8,g9,g8⟩:=qjx Tp.info29L;have m6:=qhp (YY k (by omega));have T:=qhp λ(i:Nat)=>xy k (l.drop (i+1)) (by simp;omega);have s5:((k:Int)+1 == 0)=false:=by rw[beq_eq_false_iff_ne];omega
  have r9:IntKind.i64.wrap (k:Int)=(k:Int):=qin _ (by omega);obtain⟨F,hF⟩:∃F:Nat->List (List Int),F=λn=>(qil n).flatMap λi=>ju (l[i]?.getD 0) (zE (l.drop (i+1)) k):=⟨_,rfl⟩;have m4:=qhp (show zE l (k+1)=F l.length by rw[hF];rfl);rw[show((k+1:Nat):Int)=(k:Int)+1 by omega];have n6:=qhp (show F 0=[] by rw[hF];rfl);have n3:=qhp (show ∀i,F (i+1)=F i++ju (l[i]?.getD 0) (zE (l.drop (i+1)) k) by intro i;rw[hF];simp[qlo]);have n4:=qhp (show ∀i,i<=5->(F i).length<=15625 by
   intro i hi;have h:=Qv (λ(i:Nat)=>ju (l[i]?.getD 0) (zE (l.drop (i+1)) k)) 3125 (λi=>by rw[ju,qkk];exact qhB (T i).1 (QJ (by omega))) (qil i);rw[qni] at h;rw[hF];exact qhB h (Nat.mul_le_mul_right _ hi))
  clear hF;go_enter Tp.x86,Tryz.ntmps86;go_wp2;obtain⟨A,hA⟩:∃A,A=w.heap.size:=⟨_,rfl⟩;have⟨HA,m7⟩:=qE hA hI;obtain⟨b',Y,e,-,hc⟩:=hI.cell;cases e;have HC:=qhp hc;clear hA hI hc;go_loopw [5,6] (λov iv wr=>∃i:Nat,iv=.int .i64 i/\i<=l.length/\w.gb wr none/\qQ A wr ov (F i)) (λ_ iv _=>(l.length - qiF iv).toNat)
  case atStart=>exact⟨0,rfl,by omega,qhD _ _,by rw[n6];exact qQ.nil _ _⟩
  case round=>
   obtain⟨i,rfl,hi,s,hO⟩:=hrel;have⟨c9,HO⟩:=qE s hO;by_cases Q:i<l.length
   ·obtain⟨B,o,rfl,-,-,-,h4⟩:=HC.out (by intro e;rw[e] at Q;simp at Q);have d0:=h4 i Q;have d1:=s.cl d0;have s6:(i:Int)<(l.length:Int):=by omega
    have s1:IntKind.i64.wrap ((i:Int)+1)=(i:Int)+1:=qin _ (by omega);obtain⟨y,V⟩:∃y,y=l[i]?.getD 0:=⟨_,rfl⟩;obtain⟨L,hL⟩:∃L,L=zE (l.drop (i+1)) k:=⟨_,rfl⟩;obtain⟨P,hP⟩:∃P,P=F i:=⟨_,rfl⟩;have t2:L.length<=3125:=by rw[hL];exact qhB (T i).1 (QJ (by omega))
    have s8:P.length<=15625:=by rw[hP];exact n4 i (by omega)
    have HE:=qhp (show ∀m∈L,m.length<=5 by rw[hL];exact λm h=>qhB ((T i).2 m h) (by omega));have l7:=qhp (show F (i+1)=P++ju y L by rw[n3,hP,hL,V]);have b9:=qhp (m7.kept s);have d5:=qhp (show ∀b' Y,qT lo a6 wr (.slice b' (l.length - (i+1)) Y) (l.drop (i+1))->l.length - (i+1)<=Y->qis Ya 86 #[.slice b' (l.length - (i+1)) Y,k] wr λe D=>∃v,e=.returned v/\wr.gb D none/\qQ wr.heap.size D v L by
     intro b' Y h1 h2;have h:=m6.out lo a6 b' Y (l.drop (i+1)) wr;rw[qlc,<- hL] at h;exact h h1 (by omega) h2)
    rw[<- hP] at HO;rw[<- V] at d0 d1;clear s hO hP hL h4 V;go_upto_region 7 with(fail);go_cut [7] from 18 to 24 (λv7 wx=>wr.gb wx none/\qQ wr.heap.size wx v7 L)
    case first=>
     go_wp2_with (fail)
     ·refine(d5 (some ⟨B,o,none⟩) 0 (b9.dropE (i+1) (by omega)) (by omega)).mono ?_;rintro e w1 ⟨v,rfl,X,u⟩;go_wp2;have k6:c=i+1:=by omega
      subst k6;go_meet;exact⟨X,u⟩
     ·refine(d5 (some ⟨B,o+(i+1),none⟩) (c - (i+1)) (b9.drop (i+1) (by omega) rfl) (by omega)).mono ?_;rintro e w1 ⟨v,rfl,X,u⟩;go_wp2;go_meet;exact⟨X,u⟩
    case rest=>
    obtain⟨X,u⟩:=hcut;obtain⟨la,lc,rfl,-⟩:=u.at;have⟨c3,HR⟩:=qE X u;clear X u;have n2:=qhp (c9.t c3);obtain⟨wo,k0⟩:∃x,x=wr:=⟨wr,rfl⟩;have m9:=qhp (show wo.heap.size<=wr.heap.size by rw[k0];exact qhv _);have m8:=qhp (qhv wr.heap.size);go_wp2;go_loopw [5,8] (λov xv wj=>∃x:Nat,xv=.int .i64 x/\x<=L.length/\w.gb wj none/\qQ A wj ov (P++ju y (L.take x))/\qQ wo.heap.size wj (.slice la L.length lc) L/\∀j,ov.ownBlock=some j->(qjc la L.length lc).ownBlock≠some j) (λ_ xv _=>(L.length - qiF xv).toNat)
    case atStart=>exact⟨0,rfl,by omega,n2,by simpa[ju] using HO.out.kept c3,HR.low m9,λj e e2=>by
     have h1:=HO.out.lt j e;have h2:=HR.out.ge j e2;have h3:=m8.out;omega⟩
    case round=>
     obtain⟨x,rfl,hx,s,hN,a8,b0⟩:=hrel;have⟨R,S⟩:=qE a8 b0;clear a8 b0;have c8:=qhp s;obtain⟨vs,p,r⟩:=hN;obtain⟨na,nc,rfl,-⟩:=kA p;by_cases h9:x<L.length
     ·obtain⟨m,hm⟩:∃m,L[x]?=some m:=⟨_,qhz h9⟩;have⟨_,_,er,u⟩:=R.out.at;injection er with er1 _ er3;subst er1 er3;obtain⟨g,rfl,G⟩:=u (by omega);have⟨yv,V,O⟩:=G x m hm;obtain⟨yb,yc,rfl,-,-⟩:=O.cell;have s3:m.length<=5:=HE.out m (qi9 hm);have r8:(x:Int)<(L.length:Int):=by omega
      have HS:=qhp (q18 y L x m hm);obtain⟨M,hM⟩:∃M,M=P++ju y (L.take x):=⟨_,rfl⟩;have t1:M.length<=20000:=by rw[hM,qj1,ju,qkk,qky];omega
      rw[<- hM] at p r S ⊢;have HS:=qhp (show P++ju y (L.take (x+1))=M++[y::m] by rw[HS,<- qk8,<- hM]);have⟨HI,C⟩:=qE r p;have t3:A<=wr.heap.size:=by have:=HA.out;have:=s.size;omega
      have dy:=s.cl d0;have z:=qhp (show ∀W,wr.gb W none->W.cell? ⟨B,o+i,none⟩=some (.int .i64 y)/\W.cell? ⟨g,x,none⟩=some (.slice yb m.length yc) from λW h=>⟨h.cl dy,h.cl V⟩);have m5:=qhp (show ∀W,wr.gb W none->qT 0 wr.heap.size W (.slice yb m.length yc) m from λW h=>(O.kept h).g);clear s r p G u O hM hm dy V;go_upto_region 11 with(fail);have d:=qhp (qe wr none);refine qz 12 (λD=>D.cell? ⟨B,o+i,none⟩=some (.int .i64 y)/\D.cell? ⟨g,x,none⟩=some (.slice yb m.length yc)) (by kernel_rfl) (by kernel_rfl) (z _ d) (λhHeld=>?_);simp only[qhE,qi1,qib,qiA,qi6,qie,qif,qio,qii,qi7];refine tk 0 (h:=tk 1 (h:=tk 2 (h:=tk 3 (h:=tk 4 (h:=tk 6 (h:=tk 7 (h:=tk 8 (h:=tk 9 (h:=?_)))))))));try go_frame
      refine rdc 5 λK H=>?_;go_simp;have HX:=qhp (show wr.gb ((wr.alloc (.cells #[y] 3)).drew) none/\((wr.alloc (.cells #[y] 3)).drew).ownsRow wr.heap.size 3 1 (.slice (some ⟨wr.heap.size,0,none⟩) 1 1) 1 [.int .i64 y] from⟨d.t (qhq _ _ none),q7f wr.drew y⟩);generalize (wr.alloc (.cells #[y] 3)).drew=WN at HX ⊢;replace d:=qhp HX.1;have H1:=qhp HX.2;clear HX;refine H.out _ _ (z _ d) (λhHeld=>?_);clear H K;try go_frame
      refine rdc 10 λK H=>?_;refine kE (.tmp 36) (.tmp 40) H1 (m5 _ d) d.size (by omega) (by omega) λI N Z f a=>?_;have XO:=qhp (show qg wr.heap.size Z.heap.size Z (.slice (some ⟨I,0,none⟩) (1+m.length) N) (y::m) from qg.own (l:=y::m) (n:=1+m.length) f (by simp;omega));replace d:=qhp (d.andThen a (λj e=>.inl (H1.lt j e).1));clear f a;refine H.out _ _ (z _ d) (λhHeld=>?_);clear H K;try go_frame
      refine rdc 11 λK H=>?_;go_simp;have HN:=qhp (qhA Z (.cells #[.slice (some ⟨I,0,none⟩) (1+m.length) N] 29));have G4:=qhp d;replace d:=qhp (d.t (qhq Z (.cells #[.slice (some ⟨I,0,none⟩) (1+m.length) N] 29) none));refine H.out _ _ (z _ d) (λhHeld=>?_);clear H K;try go_frame
      refine⟨by kernel_rfl,?_⟩;simp only[qig,qit];clear hHeld;have h4:=G4.out.size;go_wp2_with (at_builtin;(refine qqm _ rfl _ _ 36 rfl A 29 j0 _ 1 24 Tp.und36L k5 h8 g9 g8 rfl (by decide) (.slice na M.length nc) M.length vs rfl ((C.kept G4 (qlC _)).alloc _) ⟨Z.heap.size,0,none⟩ 1 1 [.slice (some ⟨I,0,none⟩) (1+m.length) N] rfl rfl (qje (cs:=#[.slice (some ⟨I,0,none⟩) (1+m.length) N]) (t:=29) (fr:=(0,0)) HN) (by simp[qjD]) (by unfold qlg;omega) (by omega) (by simp;omega) ?_);intro v5 w5 f a _ k7;have n7:=qhp k7;have HW:=qhp f;have U:=qhp a;clear f a);have l9:=qQ.push ((C.kept G4 (qlC _)).alloc (.cells #[.slice (some ⟨I,0,none⟩) (1+m.length) N] 29)) (λj x q hx hq=>((HI j x q hx hq).kept d).mono (qhv _) d.size) ((XO.alloc (.cells #[.slice (some ⟨I,0,none⟩) (1+m.length) N] 29)).mono (qiu _) (by simp)) HW U;have l4:=qkm (row:=none) (c8.t d) U (λj e=>.inl (by have:=(C.lt j e).1;have:=HA.out;omega));have a7:=(R.kept d).beside ((C.kept G4 (qlC _)).alloc (.cells #[.slice (some ⟨I,0,none⟩) (1+m.length) N] 29)) U S;have a9:=q4t n7 S (λj e=>qi0 (R.lt j e) d.size);go_roundw
      case rel=>exact⟨x+1,by simp,by omega,l4,by rw[HS];exact l9,a7,a9⟩
      case measure=>simp[qiF];omega
     ·obtain rfl:x=L.length:=by omega
      have HN:=qhp (show qQ A wr (.slice na _ nc) (P++ju y (L.take L.length)) from⟨vs,p,r⟩);clear s r p;go_wp2;go_roundw
      case rel=>exact⟨i+1,by simp,by omega,c8,by rw[l7];simpa using HN.out⟩
      case measure=>simp[qiF];omega
   ·obtain rfl:i=l.length:=by omega
    clear s hO;go_wp2;go_ret;exact⟨_,rfl,c9,by rw[m4];exact HO.low (qlB HA.symm)⟩
def JH:∀k:Nat,k<=5->∀(lo hi:Nat) (b:Option qiG) (c:Nat) (l:List Int) (w:qhr),qT lo hi w (.slice b l.length c) l->l.Nodup->l.length=k ->qis Ya 148 #[.slice b l.length c] w λe w'=>∃v,e=.returned v/\w.gb w' none/\qQ w.heap.size w' v (Q0 k l)
 | 0,_,_,_,_,_,l,w,_,_,hl=>by
  go_enter Tp.x148,Tryz.ntmps148;go_wp2;go_ret;exact⟨_,rfl,qhq _ _ none,qQ.one w⟩
 | k+1,hk,lo,k9,b,c,l,w,hI,a8,hl=>by
  have⟨i0,t2,s3,s2,s1⟩:=qjx Tp.info3p;have⟨j0,k8,k0,h9,h8⟩:=qjx Tp.info29L;have n4:=qhp (JH k (by omega));have⟨c8,c9⟩:=qE a8 hl;replace hl:l.length<=5:=by omega
  have V:=qhp λ(i:Nat)=>Qm k (l.filter λz=>z != l[i]?.getD 0) (qhB (qkb _ _) (by omega));have s9:((l.length:Int) == 0)=false:=by rw[beq_eq_false_iff_ne];have:=c9.out;omega
  have s5:IntKind.i64.wrap (k:Int)=(k:Int):=qin _ (by omega);obtain⟨F,hF⟩:∃F:Nat->List (List Int),F=λn=>(qil n).flatMap λi=>ju (l[i]?.getD 0) (Q0 k (l.filter λz=>z != l[i]?.getD 0)):=⟨_,rfl⟩;have m8:=qhp (show Q0 (k+1) l=F l.length by rw[hF];rfl);clear a8;have p7:=qhp (show F 0=[] by rw[hF];rfl);have p5:=qhp (show ∀i,F (i+1)=F i++ju (l[i]?.getD 0) (Q0 k (l.filter λz=>z != l[i]?.getD 0)) by intro i;rw[hF];simp[qlo]);have p6:=qhp (show ∀i,i<=5->(F i).length<=15625 by
   intro i hi;have h:=Qv (λ(i:Nat)=>ju (l[i]?.getD 0) (Q0 k (l.filter λz=>z != l[i]?.getD 0))) 3125 (λi=>by rw[ju,qkk];exact qhB (V i).1 (QJ (by omega))) (qil i);rw[qni] at h;rw[hF];exact qhB h (Nat.mul_le_mul_right _ hi))
  clear hF;go_enter Tp.x148,Tryz.ntmps148;go_wp2;obtain⟨A,hA⟩:∃A,A=w.heap.size:=⟨_,rfl⟩;have⟨HA,n8⟩:=qE hA hI;obtain⟨b',c',e,-,hc⟩:=hI.cell;cases e;have HC:=qhp hc;clear hA hI hc;go_loopw [3,4] (λov iv wr=>∃i:Nat,iv=.int .i64 i/\i<=l.length/\w.gb wr none/\qQ A wr ov (F i)) (λ_ iv _=>(l.length - qiF iv).toNat)
  case atStart=>exact⟨0,rfl,by omega,qhD _ _,by rw[p7];exact qQ.nil _ _⟩
  case round=>
   obtain⟨i,rfl,hi,s,hO⟩:=hrel;have⟨d7,HO⟩:=qE s hO;by_cases u:i<l.length
   ·obtain⟨B,o,rfl,-,-,-,h4⟩:=HC.out (by intro e;rw[e] at u;simp at u);have d0:=h4 i u;have d1:=s.cl d0;have t1:(i:Int)<(l.length:Int):=by omega
    have s6:IntKind.i64.wrap ((i:Int)+1)=(i:Int)+1:=qin _ (by omega);obtain⟨y,G⟩:∃y,y=l[i]?.getD 0:=⟨_,rfl⟩;obtain⟨L,hL⟩:∃L,L=Q0 k (l.filter λz=>z != l[i]?.getD 0):=⟨_,rfl⟩;obtain⟨P,hP⟩:∃P,P=F i:=⟨_,rfl⟩;have t6:L.length<=3125:=by rw[hL];exact qhB (V i).1 (QJ (by omega))
    have t3:P.length<=15625:=by rw[hP];exact p6 i (by omega)
    have HE:=qhp (show ∀m∈L,m.length<=5 by rw[hL];exact λm h=>qhB ((V i).2 m h) (by omega));have m3:=qhp (show F (i+1)=P++ju y L by rw[p5,hP,hL,G]);have n6:=qhp (n8.kept s);have a7:y∈l:=by rw[G,qhz u];exact qmB _
    have m6:=qhp (show(l.filter λz=>z != y).Nodup from c8.filter _);have m9:=qhp (show(l.filter λz=>z != y).length=k by
     rw[<- c8.erase_eq_filter,List.length_erase_of_mem a7,c9];rfl)
    have n2:=qhp (show L=Q0 k (l.filter λz=>z != y) by rw[hL,G]);clear a7;rw[<- hP] at HO;rw[<- G] at d0 d1;clear s hO hP hL h4 G;go_upto_region 8 with(first
     | (go_at_call 158;refine(q25 lo k9 _ l y wr n6 (by omega)).mono ?_;rintro e w2 ⟨v2,rfl,a9,S⟩;obtain⟨b2,c2,rfl,-,-⟩:=S.cell;have Y:=qhp a9;have n7:=qhp S;clear a9 S)
     | (go_at_call 148;refine(n4 _ _ b2 c2 _ w2 n7.g m6 m9).mono ?_;rintro e w1 ⟨v,rfl,hg,R⟩;rw[<- n2] at R;obtain⟨la,lc,rfl,-⟩:=R.at;have d5:=qhp (Y.t hg);have HR:=qhp R;clear hg R))
    have p4:=qhp (d7.t d5);obtain⟨wo,k6⟩:∃x,x=wr:=⟨wr,rfl⟩;have p3:=qhp (show wo.heap.size<=w2.heap.size by rw[k6];exact Y.size);have n9:=qhp Y.size;go_wp2;go_loopw [3,6] (λov xv wj=>∃x:Nat,xv=.int .i64 x/\x<=L.length/\w.gb wj none/\qQ A wj ov (P++ju y (L.take x))/\qQ wo.heap.size wj (.slice la L.length lc) L/\∀j,ov.ownBlock=some j->(qjc la L.length lc).ownBlock≠some j) (λ_ xv _=>(L.length - qiF xv).toNat)
    case atStart=>exact⟨0,rfl,by omega,p4,by simpa[ju] using HO.out.kept d5,HR.low p3,λj e e2=>by
     have h1:=HO.out.lt j e;have h2:=HR.out.ge j e2;have h3:=n9.out;omega⟩
    case round=>
     obtain⟨x,rfl,hx,s,hN,b6,b8⟩:=hrel;have⟨T,U⟩:=qE b6 b8;clear b6 b8;have d6:=qhp s;obtain⟨vs,p,r⟩:=hN;obtain⟨na,nc,rfl,-⟩:=kA p;by_cases k5:x<L.length
     ·obtain⟨m,hm⟩:∃m,L[x]?=some m:=⟨_,qhz k5⟩;have⟨_,_,er,R⟩:=T.out.at;injection er with er1 _ er3;subst er1 er3;obtain⟨g,rfl,H⟩:=R (by omega);have⟨yv,G,Q⟩:=H x m hm;obtain⟨yb,yc,rfl,-,-⟩:=Q.cell;have s8:m.length<=5:=HE.out m (qi9 hm);have s4:(x:Int)<(L.length:Int):=by omega
      have HS:=qhp (q18 y L x m hm);obtain⟨M,hM⟩:∃M,M=P++ju y (L.take x):=⟨_,rfl⟩;have t5:M.length<=20000:=by rw[hM,qj1,ju,qkk,qky];omega
      rw[<- hM] at p r U ⊢;have HS:=qhp (show P++ju y (L.take (x+1))=M++[y::m] by rw[HS,<- qk8,<- hM]);have⟨HI,D⟩:=qE r p;have t7:A<=wr.heap.size:=by have:=HA.out;have:=s.size;omega
      have dy:=s.cl d0;have C:=qhp (show ∀W,wr.gb W none->W.cell? ⟨B,o+i,none⟩=some (.int .i64 y)/\W.cell? ⟨g,x,none⟩=some (.slice yb m.length yc) from λW h=>⟨h.cl dy,h.cl G⟩);have n3:=qhp (show ∀W,wr.gb W none->qT 0 wr.heap.size W (.slice yb m.length yc) m from λW h=>(Q.kept h).g);clear s r p H R Q hM hm dy G;go_upto_region 11 with(fail);have d:=qhp (qe wr none);refine qz 12 (λw'=>w'.cell? ⟨B,o+i,none⟩=some (.int .i64 y)/\w'.cell? ⟨g,x,none⟩=some (.slice yb m.length yc)) (by kernel_rfl) (by kernel_rfl) (C _ d) (λhHeld=>?_);simp only[qhE,qi1,qib,qiA,qi6,qie,qif,qio,qii,qi7];refine tk 0 (h:=tk 1 (h:=tk 2 (h:=tk 3 (h:=tk 4 (h:=tk 6 (h:=tk 7 (h:=tk 8 (h:=tk 9 (h:=?_)))))))));try go_frame
      refine rdc 5 λK I=>?_;go_simp;have HX:=qhp (show wr.gb ((wr.alloc (.cells #[y] 3)).drew) none/\((wr.alloc (.cells #[y] 3)).drew).ownsRow wr.heap.size 3 1 (.slice (some ⟨wr.heap.size,0,none⟩) 1 1) 1 [.int .i64 y] from⟨d.t (qhq _ _ none),q7f wr.drew y⟩);generalize (wr.alloc (.cells #[y] 3)).drew=WN at HX ⊢;replace d:=qhp HX.1;have H1:=qhp HX.2;clear HX;refine I.out _ _ (C _ d) (λhHeld=>?_);clear I K;try go_frame
      refine rdc 10 λK I=>?_;refine kE (.tmp 35) (.tmp 39) H1 (n3 _ d) d.size (by omega) (by omega) λN O Z f a=>?_;have XO:=qhp (show qg wr.heap.size Z.heap.size Z (.slice (some ⟨N,0,none⟩) (1+m.length) O) (y::m) from qg.own (l:=y::m) (n:=1+m.length) f (by simp;omega));replace d:=qhp (d.andThen a (λj e=>.inl (H1.lt j e).1));clear f a;refine I.out _ _ (C _ d) (λhHeld=>?_);clear I K;try go_frame
      refine rdc 11 λK I=>?_;go_simp;have HN:=qhp (qhA Z (.cells #[.slice (some ⟨N,0,none⟩) (1+m.length) O] 29));have G4:=qhp d;replace d:=qhp (d.t (qhq Z (.cells #[.slice (some ⟨N,0,none⟩) (1+m.length) O] 29) none));refine I.out _ _ (C _ d) (λhHeld=>?_);clear I K;try go_frame
      refine⟨by kernel_rfl,?_⟩;simp only[qig,qit];clear hHeld;have h4:=G4.out.size;go_wp2_with (at_builtin;(refine qqm _ rfl _ _ 36 rfl A 29 j0 _ 1 24 Tp.und36L k8 k0 h9 h8 rfl (by decide) (.slice na M.length nc) M.length vs rfl ((D.kept G4 (qlC _)).alloc _) ⟨Z.heap.size,0,none⟩ 1 1 [.slice (some ⟨N,0,none⟩) (1+m.length) O] rfl rfl (qje (cs:=#[.slice (some ⟨N,0,none⟩) (1+m.length) O]) (t:=29) (fr:=(0,0)) HN) (by simp[qjD]) (by unfold qlg;omega) (by omega) (by simp;omega) ?_);intro v5 w5 f a _ l4;have p8:=qhp l4;have HW:=qhp f;have X:=qhp a;clear f a);have m5:=qQ.push ((D.kept G4 (qlC _)).alloc (.cells #[.slice (some ⟨N,0,none⟩) (1+m.length) O] 29)) (λj x q hx hq=>((HI j x q hx hq).kept d).mono (qhv _) d.size) ((XO.alloc (.cells #[.slice (some ⟨N,0,none⟩) (1+m.length) O] 29)).mono (qiu _) (by simp)) HW X;have l7:=qkm (row:=none) (d6.t d) X (λj e=>.inl (by have:=(D.lt j e).1;have:=HA.out;omega));have b0:=(T.kept d).beside ((D.kept G4 (qlC _)).alloc (.cells #[.slice (some ⟨N,0,none⟩) (1+m.length) O] 29)) X U;have b7:=q4t p8 U (λj e=>qi0 (T.lt j e) d.size);go_roundw
      case rel=>exact⟨x+1,by simp,by omega,l7,by rw[HS];exact m5,b0,b7⟩
      case measure=>simp[qiF];omega
     ·obtain rfl:x=L.length:=by omega
      have HN:=qhp (show qQ A wr (.slice na _ nc) (P++ju y (L.take L.length)) from⟨vs,p,r⟩);clear s r p;go_wp2;go_roundw
      case rel=>exact⟨i+1,by simp,by omega,d6,by rw[m3];simpa using HN.out⟩
      case measure=>simp[qiF];omega
   ·obtain rfl:i=l.length:=by omega
    clear s hO;go_wp2;go_ret;exact⟨_,rfl,d7,by rw[m8];exact HO.low (qlB HA.symm)⟩
def loB(b:Option qiG)(a k:Nat):Option qiG:=if a=k then b else b.map (·.add k)
def addr_add(B o k:Nat):(⟨B,o,none⟩:qiG).add k=⟨B,o+k,none⟩:=by
 unfold Addr.add;split
 ·rename_i h;rw[h];rfl
 ·rfl
def qT.lo{j k a:Nat}{b:Option qiG}{W:qhr}{p q:List Int}(h:qT j k W (.slice b (p++q).length a) (p++q))(i:(p++q).length<=a):qT j k W (.slice (loB b a p.length) q.length (a - p.length)) q:=by
 have s:(p++q).drop p.length=q:=by simp
 have r:q.length=(p++q).length - p.length:=by simp
 unfold loB;rcases b with _ | ⟨B,o,n⟩
 ·obtain⟨_,_,e,_,c⟩:=h;cases e;refine⟨none,a - p.length,by simp,by omega,λg=>?_⟩;have⟨_,_,e,_⟩:=c (by simp[g]);cases e
 ·by_cases d:q=[]
  ·subst d;exact⟨_,_,rfl,by simp,λh=>absurd rfl h⟩
  ·have f:n=none:=by
    obtain⟨_,_,e,_,c⟩:=h;cases e;have⟨_,_,e,_⟩:=c (by simp[d]);cases e;rfl
   subst f;have l:=h.drop (c':=a - p.length) p.length (by simp) r;rw[s] at l;by_cases c:a=p.length
   ·exact absurd (qja (by have:=i;rw[qj1] at this;omega)) d
   ·rw[if_neg c];rw[qjh,addr_add];exact l
def q6j(y:Int)(l:List Int):List Int:=l.takeWhile (λx=>decide (x<y))++y::l.dropWhile (λx=>decide (x<y))
def Yh(l:List Int):List Int:=l.foldl (λo y=>q6j y o) []
def qa4(y:Int)(l:List Int):∃p q,l=p++q/\q6j y l=p++y::q/\(∀x∈p,x<y)/\(∀x∈q.head?,¬ x<y):=by
 refine⟨l.takeWhile (λx=>decide (x<y)),l.dropWhile (λx=>decide (x<y)),(qor).symm,rfl,λx a=>?_,λx a=>?_⟩
 ·have h:=List.all_takeWhile (p:=λx:Int=>decide (x<y)) (l:=l);have:=qiB.1 h x a;simpa using this
 ·intro h;have b:=List.head?_dropWhile_not (λx:Int=>decide (x<y)) l;rw[Option.mem_def.1 a] at b;simp at b;omega
def q69{W:qhr}{A B g c:Nat}{F p q:List Int}{y:Int}(d:F=p++y::q)(i:A<=B)(h:W.ownsRow B 3 1 (.slice (some ⟨g,0,none⟩) (p.length+1+q.length) c) (p.length+1+q.length) ((p.map (qid .i64)++[.int .i64 y])++q.map (qid .i64))) :W.ownsRow A 3 1 (.slice (some ⟨g,0,none⟩) (p.length+1+q.length) c) F.length (F.map (qid .i64)):=by
 have k:F.length=p.length+1+q.length:=by rw[d];simp;omega
 have j:F.map (qid .i64)=(p.map (qid .i64)++[.int .i64 y])++q.map (qid .i64):=by rw[d];simp
 rw[k,j];exact⟨h.1,h.2.imp id λ⟨g,b,a,e,f,r⟩=>⟨g,b,a,e,qhB i f,r⟩⟩
def qct(lo hi:Nat)(v:qhu)(l:List Int)(w:qhr)(hI:qT lo hi w v l)(hl:l.length<=500) :qis Ya 87 #[v] w λe w'=>∃v',e=.returned v'/\w.gb w' none/\qg w.heap.size w'.heap.size w' v' (Yh l)/\∀b k c,v'=.slice b k c->k<=c:=by
 obtain⟨b,c,rfl,p5,hc⟩:=hI.cell;have HC:=qhp hc;obtain⟨A,hA⟩:∃A,A=w.heap.size:=⟨_,rfl⟩;have HA:=qhp hA;obtain⟨F,hF⟩:∃F,F=λk=>Yh (l.take k):=⟨_,rfl⟩;have e5:=qhp (show F 0=[] by rw[hF];rfl);have k8:=qhp (show ∀k y,l[k]?=some y->F (k+1)=q6j y (F k) from λk y hy=>by
  rw[hF];simp only[Yh];rw[qj7,hy,qms];rfl)
 have k9:=qhp (show F l.length=Yh l by rw[hF];simp);clear hc hI hF hA;go_enter Tp.x87,Tryz.ntmps87;go_wp2;go_loopw [3,4] (λov iv wr=>∃k:Nat,iv=.int .i64 k/\k<=l.length/\w.gb wr none/\wr.ownsRow A 3 1 ov (F k).length ((F k).map (qid .i64))/\(F k).length=k) (λ_ iv _=>(l.length - qiF iv).toNat)
 case atStart=>exact⟨0,rfl,by omega,qhD _ _,by rw[e5];simpa using qjF _ _ _ _,by rw[e5];rfl⟩
 case round=>
  obtain⟨k,rfl,hk,hG,hO,X⟩:=hrel;obtain⟨oa,oc,rfl,z⟩:=kA hO;have a7:=Yp hO;have⟨HG,HO,e4⟩:=ze hG hO X;have k0:=hG.size;by_cases U:k<l.length
  ·obtain⟨B,lo,rfl,-,-,-,h4⟩:=HC.out (by intro e;rw[e] at U;simp at U);have d0:=hG.cl (h4 k U);obtain⟨y,hy⟩:∃y,l[k]?=some y:=⟨_,qhz U⟩;rw[hy] at d0;simp only[qhC] at d0;have p6:(k:Int)<(l.length:Int):=by omega
   have V:qT 0 wr.heap.size wr (.slice oa (F k).length oc) (F k):=((qg.own hO (by omega)).mono (qiu _) (qhv _)).g;have⟨p,q,r,O,hp,hq⟩:=qa4 y (F k);have HE:=qhp (k8 k y hy);obtain⟨u,Z⟩:∃u,u=F k:=⟨_,rfl⟩;rw[<- Z] at r O V z a7 X HE ⊢;have N:=qhp (show F (k+1)=p++y::q by rw[HE,O]);have R:=qhp (show ∀W,wr.gb W none->qT 0 wr.heap.size W (.slice oa p.length oc) p from λW h=>by
    have:=(V.kept h).take p.length (by rw[r];simp) oc;rw[r] at this;simpa using this)
   have Q:=qhp (show ∀W,wr.gb W none->qT 0 wr.heap.size W (.slice (loB oa oc p.length) q.length (oc - p.length)) q from λW h=>by
    have:=V.kept h;rw[r] at this;exact this.lo (by rw[<- r];exact a7))
   have q0:=qhp r;have n9:p.length<=u.length:=by rw[r];simp
   have c9:u.length=p.length+q.length:=by rw[r];simp
   have⟨H,b0⟩:=qE c9 X;have T:=qhp (show A<=wr.heap.size by rw[HA];exact k0);have k7:=qhp (show ∀j,j<p.length->∃x,x<y/\∀W,wr.gb W none->∃g,oa=some ⟨g,0,none⟩/\W.cell? ⟨g,j,none⟩=some (.int .i64 x) from λj hj=>by
    obtain⟨x,hx⟩:∃x,p[j]?=some x:=⟨_,qhz hj⟩;obtain⟨g,hg,-,-,a8⟩:=z (by omega);refine⟨x,hp x (qi9 hx),λW h=>⟨g,hg,h.cl ((a8 j (by omega)).trans ?_)⟩⟩;rw[qjE,r,qir hj,hx];rfl)
   have k6:=qhp (show q.length≠0->∃x,¬ x<y/\∀W,wr.gb W none->∃g,oa=some ⟨g,0,none⟩/\W.cell? ⟨g,p.length,none⟩=some (.int .i64 x) from λp3=>by
    obtain⟨x,hx⟩:∃x,q[0]?=some x:=⟨_,qhz (by omega)⟩;obtain⟨g,hg,-,-,a8⟩:=z (by omega);refine⟨x,hq x (by rw[List.head?_eq_getElem?,hx];rfl),λW h=>⟨g,hg,h.cl ((a8 p.length (by omega)).trans ?_)⟩⟩;rw[qjE,r,qjv (qhv _),Nat.sub_self,hx];rfl)
   have i:=qhp (show ∀W,wr.gb W none->W.cell? ⟨B,lo+k,none⟩=some (.int .i64 y) from λW h=>h.cl d0);have p4:u.length<=500:=by omega
   have n7:q.length<=u.length:=by omega
   clear h4 hy hG hO V z hp hq r O Z X HE d0 c9;obtain⟨wo,rfl⟩:∃x,x=wr:=⟨wr,rfl⟩;go_wp2;go_loopw [5] (λjv wx=>∃j:Nat,jv=.int .i64 j/\j<=p.length/\wo.gb wx none) (λjv _=>(p.length - qiF jv).toNat)
   case atStart=>exact⟨0,rfl,by omega,qhD _ _⟩
   case round=>
    obtain⟨j,rfl,hj,d7⟩:=hrel;have M:=qhp d7;clear d7;go_upto_region 6 with(fail);go_cut [26] from 12 to 26 (λg7 wx=>g7=.bool (decide (j<p.length))/\wr.gb wx none)
    case first=>
     by_cases L:j<p.length
     ·have⟨x,h9,P⟩:=k7.out j L;obtain⟨g,rfl,c1⟩:=P wr M;have c2:=i.out wr M;have d5:(j:Int)<(u.length:Int):=by omega
      clear P;go_quiet (fail);go_wp2;go_meet;exact⟨by simp[L],qk _ _ _⟩
     ·obtain rfl:j=p.length:=by omega
      by_cases n6:0<q.length;rotate_left
      ·have d5:¬ (p.length:Int)<(u.length:Int):=by have:=H.out;omega
       go_quiet (fail);go_wp2;go_meet;exact⟨by simp,qk _ _ _⟩
      ·have⟨x,h9,P⟩:=k6.out (by omega);obtain⟨g,rfl,c1⟩:=P wr M;have c2:=i.out wr M;have d5:(p.length:Int)<(u.length:Int):=by have:=H.out;omega
       clear P;go_quiet (fail);go_wp2;go_meet;exact⟨by simp;omega,qk _ _ _⟩
    case rest=>
     obtain⟨rfl,d6⟩:=hcut;have D:=qhp (M.t d6);clear d6 M;obtain⟨wr,rfl⟩:∃x,x=wc:=⟨wc,rfl⟩;by_cases L:j<p.length
     ·rw[decide_eq_true L];go_wp2;go_roundw
      case rel=>exact⟨j+1,by simp,by omega,D⟩
      case measure=>simp[qiF];omega
     ·rw[decide_eq_false L];obtain rfl:j=p.length:=by omega
      clear L;have i:=qhp λ(W:qhr) (h:wr.gb W none)=>i W (D.t h);have R:=qhp λ(W:qhr) (h:wr.gb W none)=>R W (D.t h);have Q:=qhp λ(W:qhr) (h:wr.gb W none)=>Q W (D.t h);have T:=qhp (qhB T D.size);clear hj;rw[H];have a7:p.length+q.length<=oc:=by have:=H.out;omega
      have n8:(p.length:Int)<=(oc:Int):=by omega
      have l8:(p.length:Int)<=(p.length:Int)+(q.length:Int):=by omega
      go_upto_region 8 with(fail);have f:=qhp (qe wr none);refine qz 15 (λw'=>w'.cell? ⟨B,lo+k,none⟩=some (.int .i64 y)) (by kernel_rfl) (by kernel_rfl) (i _ f) (λhHeld=>?_);simp only[qhE,qi1,qib,qiA,qi6,qie,qif,qio,qii,qi7];refine tk 1 (h:=tk 2 (h:=tk 3 (h:=tk 5 (h:=tk 6 (h:=tk 7 (h:=tk 8 (h:=tk 11 (h:=tk 12 (h:=tk 13 (h:=?_))))))))));try go_frame
      refine rdy [0,9] ?_;refine cns 0 (λK n=>?_) ?_
      ·skip;go_simp;have o:=qhp (show wr.gb ((wr.alloc (.cells #[] 3)).drew) none/\((wr.alloc (.cells #[] 3)).drew).heap[wr.heap.size]?=some (.cells #[] 3 (0,0))/\wr.heap.size<=wr.heap.size from Zu f 3 _);generalize (wr.alloc (.cells #[] 3)).drew=WF at o ⊢;replace f:=qhp o.1;have Y:=qhp o.2.1;have G:=qhp o.2.2;clear o;refine n.out _ _ (i _ f) (λhHeld=>?_);try go_frame
       refine rdy [4,9] ?_;refine cns 4 (λK n=>?_) ?_
       ·skip;refine Qf (.tmp 29) (.tmp 32) (R _ f) Y G (by omega) λvb vc WO d a=>?_;have s:=qhp d;replace f:=qhp (f.andThen a (λj e=>.inl (by cases e;exact G)));clear d a;refine n.out _ _ (i _ f) (λhHeld=>?_);refine rdc 9 λK n=>?_;go_simp;have o:=qhp (show wr.gb (WO.alloc (.cells #[.int .i64 y] 3)) none/\(WO.alloc (.cells #[.int .i64 y] 3)).heap[WO.heap.size]?=some (.cells #[.int .i64 y] 3 (0,0))/\wr.heap.size<=WO.heap.size from Zu f 3 _);replace s:=qhp (s.alloc (.cells #[.int .i64 y] 3));generalize WO.alloc (.cells #[.int .i64 y] 3)=WT at o s ⊢;replace f:=qhp o.1;have I:=qhp o.2.1;clear o;refine n.out _ _ (i _ f) (λhHeld=>?_);refine rdc 10 λK n=>?_;refine Je (.tmp 33) (.tmp 38) s I (by omega) f.size λg c WR d a=>?_;have C:=qhp d;replace f:=qhp (f.andThen a (λj e=>.inl (s.lt j e).1));clear d a;refine n.out _ _ (i _ f) (λhHeld=>?_);refine rdc 14 λK n=>?_;refine kE (.tmp 39) (.tmp 42) C (Q _ f) f.size (by omega) (by omega) λg c WS d a=>?_;have S:=qhp d;replace f:=qhp (f.andThen a (λj e=>.inl (C.lt j e).1));clear d a;refine n.out _ _ (i _ f) (λhHeld=>?_);try go_frame
        refine⟨by kernel_rfl,?_⟩;simp only[qig,qit];clear hHeld;go_wp2;go_roundw
        case rel=>exact⟨k+1,by simp,by omega,(HG.t D).t f,q69 N T S,by rw[N];have h2:=H.out;have h3:=b0.out;simp;omega⟩
        case measure=>simp[qiF];omega
       refine cns 9 (λK n=>?_) ?_
       ·skip;go_simp;have o:=qhp (show wr.gb (WF.alloc (.cells #[.int .i64 y] 3)) none/\(WF.alloc (.cells #[.int .i64 y] 3)).heap[WF.heap.size]?=some (.cells #[.int .i64 y] 3 (0,0))/\wr.heap.size<=WF.heap.size from Zu f 3 _);replace Y:=qhp (qq (p:=(.cells #[.int .i64 y] 3)) Y);generalize WF.alloc (.cells #[.int .i64 y] 3)=WT at o Y ⊢;replace f:=qhp o.1;have I:=qhp o.2.1;clear o;refine n.out _ _ (i _ f) (λhHeld=>?_);refine rdc 4 λK n=>?_;refine Qf (.tmp 29) (.tmp 32) (R _ f) Y G (by omega) λvb vc WO d a=>?_;have s:=qhp d;replace I:=qhp (blk a (by simp;(try omega);(try exact λe=>(have h1:=Y.out;have h2:=I.out;by rw[<- e,h2] at h1;cases h1))) I);replace f:=qhp (f.andThen a (λj e=>.inl (by cases e;exact G)));clear d a;refine n.out _ _ (i _ f) (λhHeld=>?_);refine rdc 10 λK n=>?_;refine Je (.tmp 33) (.tmp 38) s I (by omega) f.size λg c WR d a=>?_;have C:=qhp d;replace f:=qhp (f.andThen a (λj e=>.inl (s.lt j e).1));clear d a;refine n.out _ _ (i _ f) (λhHeld=>?_);refine rdc 14 λK n=>?_;refine kE (.tmp 39) (.tmp 42) C (Q _ f) f.size (by omega) (by omega) λg c WS d a=>?_;have S:=qhp d;replace f:=qhp (f.andThen a (λj e=>.inl (C.lt j e).1));clear d a;refine n.out _ _ (i _ f) (λhHeld=>?_);try go_frame
        refine⟨by kernel_rfl,?_⟩;simp only[qig,qit];clear hHeld;go_wp2;go_roundw
        case rel=>exact⟨k+1,by simp,by omega,(HG.t D).t f,q69 N T S,by rw[N];have h2:=H.out;have h3:=b0.out;simp;omega⟩
        case measure=>simp[qiF];omega
       exact qP.nil
      refine cns 9 (λK n=>?_) ?_
      ·skip;go_simp;have o:=qhp (show wr.gb ((wr.alloc (.cells #[.int .i64 y] 3)).drew) none/\((wr.alloc (.cells #[.int .i64 y] 3)).drew).heap[wr.heap.size]?=some (.cells #[.int .i64 y] 3 (0,0))/\wr.heap.size<=wr.heap.size from Zu f 3 _);generalize (wr.alloc (.cells #[.int .i64 y] 3)).drew=WT at o ⊢;replace f:=qhp o.1;have I:=qhp o.2.1;clear o;refine n.out _ _ (i _ f) (λhHeld=>?_);refine rdc 0 λK n=>?_;go_simp;have o:=qhp (show wr.gb (WT.alloc (.cells #[] 3)) none/\(WT.alloc (.cells #[] 3)).heap[WT.heap.size]?=some (.cells #[] 3 (0,0))/\wr.heap.size<=WT.heap.size from Zu f 3 _);replace I:=qhp (qq (p:=.cells #[] 3) I);generalize WT.alloc (.cells #[] 3)=WF at o I ⊢;replace f:=qhp o.1;have Y:=qhp o.2.1;have G:=qhp o.2.2;clear o;refine n.out _ _ (i _ f) (λhHeld=>?_);refine rdc 4 λK n=>?_;refine Qf (.tmp 29) (.tmp 32) (R _ f) Y G (by omega) λvb vc WO d a=>?_;have s:=qhp d;replace I:=qhp (blk a (by simp;(try omega);(try exact λe=>(have h1:=Y.out;have h2:=I.out;by rw[<- e,h2] at h1;cases h1))) I);replace f:=qhp (f.andThen a (λj e=>.inl (by cases e;exact G)));clear d a;refine n.out _ _ (i _ f) (λhHeld=>?_);refine rdc 10 λK n=>?_;refine Je (.tmp 33) (.tmp 38) s I (by omega) f.size λg c WR d a=>?_;have C:=qhp d;replace f:=qhp (f.andThen a (λj e=>.inl (s.lt j e).1));clear d a;refine n.out _ _ (i _ f) (λhHeld=>?_);refine rdc 14 λK n=>?_;refine kE (.tmp 39) (.tmp 42) C (Q _ f) f.size (by omega) (by omega) λg c WS d a=>?_;have S:=qhp d;replace f:=qhp (f.andThen a (λj e=>.inl (C.lt j e).1));clear d a;refine n.out _ _ (i _ f) (λhHeld=>?_);try go_frame
       refine⟨by kernel_rfl,?_⟩;simp only[qig,qit];clear hHeld;go_wp2;go_roundw
       case rel=>exact⟨k+1,by simp,by omega,(HG.t D).t f,q69 N T S,by rw[N];have h2:=H.out;have h3:=b0.out;simp;omega⟩
       case measure=>simp[qiF];omega
      exact qP.nil
  ·obtain rfl:k=l.length:=by omega
   clear hG hO;go_wp2;go_ret;refine⟨_,rfl,HG,?_,λb k c e=>by cases e;exact Yp HO⟩;rw[<- k9];exact(qg.own HO (by have:=e4.out;omega)).mono (qlB HA.symm) (qhv _)
def q95(y:Int)(l:List Int):(q6j y l).Perm (y::l):=by
 unfold q6j;have h:=qry (a:=y) (l₁:=l.takeWhile λx=>decide (x<y)) (l₂:=l.dropWhile λx=>decide (x<y))
 rwa [qor] at h
def q5d:∀(l o:List Int),(l.foldl (λo y=>q6j y o) o).Perm (l++o)
 | [],_=>List.Perm.refl _
 | y::l,o=>(q5d l (q6j y o)).t (((q95 y o).append_left l).t (qry))
def q20(l:List Int):(Yh l).Perm l:=by
 have h:=q5d l []
 rwa [List.append_nil] at h
def Jy(w:qhr)(a:Obj):∃A b,A=w.heap.size/\b=w.alloc a/\w.gb b none/\b.heap[A]?=some a:=⟨_,_,rfl,rfl,qhq _ _ none,qhA w _⟩
def q44:∀k (l q:List Int),q∈Q0 k l->∀x∈q,x∈l
 | 0,_,q,b,x,a=>by simp[Q0] at b;subst b;cases a
 | k+1,l,q,b,x,a=>by
  have⟨i,d,e⟩:=qmE.1 b;obtain⟨m,hm,rfl⟩:=qlp.1 e;have c:=qjC.1 d;rcases qjr.1 a with rfl | a
  ·rw[qhz c];exact qmB _
  ·exact(qmk.1 (q44 k _ m hm x a)).1
def x9(b:List Par)(a:Int)(l:List Int):List (List Int):=(Q0 l.length (Yh l)).filter (zl b a)
def q1y(pv qv:qhu)(b:List Par)(a:Int)(l:List Int)(w:qhr)(hP:zi 0 w.heap.size w pv b)(hI:qT 0 w.heap.size w qv l)(hy:YOk b a)(hx:∀x∈l,0<=x/\x<b.length)(e4:l.Nodup)(hn:l.length<=5) :qis Ya 115 #[.agg #[pv,a],qv] w λe w'=>∃v,e=.returned v/\w.gb w' none/\qQ w.heap.size w' v (x9 b a l):=by
 have⟨j0,e8,d7,d6,d5⟩:=qjx Tp.info29L;obtain⟨S,R,rfl,p5,-⟩:=hP.cell;obtain⟨base,h8,rfl,p8,-⟩:=hI.cell;have⟨Y,H,hY,X,c,P⟩:=Jy w (.cells #[.slice S b.length R,a] 24);have a9:=λ(W:qhr) (h:H.gb W none)=>((hP.kept (c.t h)).mono (qhv _) (c.t h).size:zi 0 W.heap.size W (.slice S b.length R) b);have l6:=qhp (show qT 0 H.heap.size H (.slice base l.length h8) l from(hI.kept c).mono (qhv _) c.size);have b0:=qhp (show ∀W,H.gb W none->W.cell? Y=some (.slice S b.length R)/\W.cell? ⟨Y,1,none⟩=some (.int .i64 a) from λW h=>⟨q8 (bk h P) rfl,q8 (bk h P) rfl⟩);obtain⟨L,V⟩:∃L,L=Q0 l.length (Yh l):=⟨_,rfl⟩;have d:=q20 l;have k7:=qhp (show(Yh l).Nodup from d.nodup_iff.2 e4);have k9:=qhp (show(Yh l).length=l.length from d.length_eq);have f:=Qm l.length (Yh l) (by rw[d.length_eq];exact hn);have q1:L.length<=3125:=by rw[V];exact qhB f.1 (QJ hn)
 have l9:=qhp λ(W:qhr) (h:H.gb W none) (q:List Int) (u:q∈L) (v:qhu) (hv:qT 0 W.heap.size W v q)=>q9e 0 0 _ v b a q W (a9 W h) hv hy (λx d9=>hx x (d.subset (q44 _ _ q (V ▸ u) x d9))) (by have:=f.2 q (V ▸ u);omega);have k8:=qhp (show x9 b a l=L.filter (zl b a) by rw[V];rfl);have⟨HW,HY,b8,l4⟩:=j8 X hY c V;have e7:l.length<=500:=by omega
 clear hP hI hY X c P a9 d f V hx;go_enter Tp.x115,Tryz.ntmps115;go_upto_region 1 with(fail);rw[<- HY,show w.alloc (.cells #[.slice S b.length R,a] 24)=H from HW.symm];go_upto_region 3 with(first
  | (go_at_call 87;refine(qct 0 _ _ l H l6 e7).mono ?_;rintro e w2 ⟨v2,rfl,a7,N,-⟩;obtain⟨b2,c2,rfl,-,-⟩:=N.cell;have l8:=qhp a7;have l5:=qhp N;clear a7 N)
  | (go_at_call 148;refine(JH l.length hn _ _ b2 c2 _ w2 l5.g k7 k9).mono ?_;rintro e w3 ⟨v3,rfl,a6,s⟩;rw[<- l4] at s;obtain⟨la,lc,rfl,-⟩:=s.at;have o:=qhp (l8.t a6);have HR:=qhp s;clear a6 s))
 obtain⟨A,hA⟩:∃A,A=w3.heap.size:=⟨_,rfl⟩;have HA:=qhp hA;clear hA;go_wp2;go_loopw [5,7] (λov iv wr=>∃i:Nat,iv=.int .i64 i/\i<=L.length/\w3.gb wr none/\qQ A wr ov ((L.take i).filter (zl b a))) (λ_ iv _=>(L.length - qiF iv).toNat)
 case atStart=>exact⟨0,rfl,by omega,qhD _ _,qQ.nil _ _⟩
 case round=>
  obtain⟨i,rfl,hi,G,hO⟩:=hrel;have Q:=qhp G;by_cases e6:i<L.length
  ·obtain⟨q,u⟩:∃q,L[i]?=some q:=⟨_,qhz e6⟩;obtain⟨vs,z,O⟩:=hO;obtain⟨na,nc,rfl,-⟩:=kA z;have⟨_,_,er,hr⟩:=(HR.kept G).at;injection er with er1 _ er3;subst er1 er3;obtain⟨g,rfl,D⟩:=hr (by omega);have⟨y,hy,I⟩:=D i q u;obtain⟨U,T,rfl,-,-⟩:=I.cell;have p9:(i:Int)<(L.length:Int):=by omega
   have r:=qhp (q9f (p:=zl b a) L i q u);obtain⟨M,hM⟩:∃M,M=(L.take i).filter (zl b a):=⟨_,rfl⟩;have q0:M.length<=3125:=by
    rw[hM];exact qhB (qkb _ _) (by rw[qky];omega)
   rw[<- hM] at z O r ⊢;have⟨HI,B,h9⟩:=ze O z I;have g9:A<=wr.heap.size:=by have:=HA.out;have:=G.size;omega
   have b6:=qhp (show ∀W,wr.gb W none->W.cell? Y=some (.slice S b.length R)/\W.cell? ⟨Y,1,none⟩=some (.int .i64 a)/\W.cell? ⟨g,i,none⟩=some (.slice U q.length T) from λW h=>⟨(b0 W ((o.t G).t h)).1,(b0 W ((o.t G).t h)).2,h.cl hy⟩);have b9:=qhp λ(W:qhr) (h:wr.gb W none)=>l9 W ((o.t G).t h) q (qi9 u) _ ((I.kept h).mono (qhv _) h.size).g;generalize zl b a q=fq at r b9;clear G O z D hr hM u;go_upto_region 6 with(fail);go_cut [22] from 17 to 22 (λc8 wx=>c8=.bool fq/\wr.gb wx none)
   case first=>
    have HT:=qhp (qe wr none);refine qz 5 (λW=>W.cell? Y=some (.slice S b.length R)/\W.cell? ⟨Y,1,none⟩=some (.int .i64 a)/\W.cell? ⟨g,i,none⟩=some (.slice U q.length T)) (by kernel_rfl) (by kernel_rfl) (b6 _ HT) (λhHeld=>?_);simp only[qhE,qi1,qib,qiA,qi6,qie,qif,qio,qii,qi7];refine tk 0 (h:=tk 1 (h:=tk 2 (h:=tk 3 (h:=tk 4 (h:=?_)))));try go_frame
    refine⟨by kernel_rfl,?_⟩;simp only[qig,qit];clear hHeld;go_wp2_with (go_at_call 132;refine(b9 _ HT).mono ?_;rintro e w6 ⟨rfl,Z⟩;have G6:=qhp (HT.t Z);clear Z);go_meet;exact⟨rfl,G6⟩
   case rest=>
   obtain⟨rfl,hg⟩:=hcut;have l7:=qhp (Q.t hg);have C:=qhp hg;obtain⟨-,-,p6⟩:=b6.out wc hg;have q2:A<=wc.heap.size:=qhB g9 hg.size;clear hg;cases fq with
   | true=>
    rw[if_pos rfl] at r;go_wp2_with (at_builtin;(refine wpList_append_own _ rfl _ _ 36 rfl A 29 j0 _ 1 24 Tp.und36L e8 d7 d6 d5 rfl (by decide) (.slice na M.length nc) M.length vs rfl ((B.kept C (qlC _)).alloc _) ⟨wc.heap.size,0,none⟩ 1 1 [.slice U q.length T] rfl rfl (qje (cs:=#[.slice U q.length T]) (t:=29) (fr:=(0,0)) (qhA wc _)) (by simp[qjD]) (by unfold qlg;omega) (by omega) (by simp;omega) ?_);intro v5 w5 F k _;have HW:=qhp F;have b7:=qhp k;clear F k);have n:=C.out.t (qhq wc (.cells #[.slice U q.length T] 29) none);have k6:=qQ.push ((B.kept C (qlC _)).alloc (.cells #[.slice U q.length T] 29)) (λj x q hx u=>((HI j x q hx u).kept n).mono (qhv _) n.size) ((h9.kept n).mono (qhv _) n.size) HW b7;have g8:=qkm (row:=none) (Q.t n) b7 (λj e=>.inl (by have:=(B.lt j e).1;have:=HA.out;omega));go_roundw
    case rel=>exact⟨i+1,by simp,by omega,g8,by rw[r];exact k6⟩
    case measure=>simp[qiF];omega
   | false=>
    go_wp2;go_roundw
    case rel=>exact⟨i+1,by simp,by omega,l7,by rw[r];simpa using qQ.kept (show qQ A _ _ M from⟨vs,B,HI⟩) C⟩
    case measure=>simp[qiF];omega
  ·obtain rfl:i=L.length:=by omega
   have HO:=qhp hO;clear G hO;go_wp2;go_ret;have h1:=HO.out;rw[qjs] at h1;exact⟨_,rfl,b8.t (o.t Q),by rw[k8];exact h1.low (by rw[HA];exact qhB b8.size o.size)⟩


def JY(M L:qhu)(a b:List Int)(w:qhr)(C:qg 0 w.heap.size w M a)(B:qg 0 w.heap.size w L b) :qis Ya 119 #[M,L] w λe O=>e=.returned (.bool (decide (je a b<0)))/\w.gb O none:=by
 obtain⟨ba,ca,rfl,S,-⟩:=C.cell;obtain⟨bb,cb,rfl,R,-⟩:=B.cell;have⟨I,H⟩:=qE C B;clear C B;go_enter Tp.x119,Tryz.ntmps119;go_wp2;go_loopw [5] (λA wr=>∃k:Nat,A=.int .i64 k/\k<=a.length/\k<=b.length/\je a b=je (a.drop k) (b.drop k)/\w.gb wr none) (λA _=>(a.length - qiF A).toNat)
 case atStart=>exact⟨0,rfl,by omega,by omega,rfl,qhD _ _⟩
 case round=>
  obtain⟨k,rfl,U,T,N,v⟩:=hrel;have⟨u,s⟩:=qE N v;clear N;by_cases z:k<a.length
  ·have W:(k:Int)<(a.length:Int):=by omega
   by_cases f:k<b.length
   ·have V:(k:Int)<(b.length:Int):=by omega
    obtain⟨x,F⟩:∃x,a[k]?=some x:=⟨_,qhz z⟩;obtain⟨y,D⟩:∃y,b[k]?=some y:=⟨_,qhz f⟩;have⟨_,_,Y,_,n⟩:=(I.kept v).cell;injection Y with ea1 _ ea3;subst ea1 ea3;obtain⟨A1,o1,rfl,-,-,-,p⟩:=n (by intro e;rw[e] at z;simp at z);have⟨_,_,X,_,l⟩:=(H.kept v).cell;injection X with eb1 _ eb3;subst eb1 eb3;obtain⟨B1,o2,rfl,-,-,-,o⟩:=l (by intro e;rw[e] at f;simp at f);have i:=p k z;have h:=o k f;rw[F] at i;rw[D] at h;simp only[qhC] at i h;have q:=qhp (q1D a b k x y F D);clear n l p o F D v;have⟨HX,Z⟩:=qE i h;by_cases c:x=y
    ·subst c;have P:IntKind.i64.wrap ((k:Int)+1)=(k:Int)+1:=qin _ (by omega);have G:=qhp (show je a b=je (a.drop (k+1)) (b.drop (k+1)) by rw[u,q,if_neg (by simp[q7x.2 rfl])]);go_upto_region 4 with(fail);go_quiet (fail);go_wp2;go_roundw
     case rel=>exact⟨k+1,by simp,by omega,by omega,G,s.t (qk _ _ none)⟩
     case measure=>simp[qiF];omega
    ·have Q:(x == y)=false:=by rw[beq_eq_false_iff_ne];exact c
     have g:=qhp (show decide (je a b<0)=decide (x<y) by
      rw[u,q,if_pos (by simpa using mt q7x.1 c)];exact decide_eq_decide.2 qec)
     clear c;go_upto_region 4 with(fail);go_quiet (fail);go_upto_region 5 with(fail);have d:=qk wr nq none;have i:=d.cl HX;have h:=d.cl Z;have r:=qhp (s.t d);generalize wr.drewN nq=w3 at i h r ⊢;clear d;go_quiet (fail);go_wp2;go_ret;exact⟨by rw[g];rfl,r.t (qk _ _ none)⟩
   ·obtain rfl:k=b.length:=by omega
    have g:=qhp (show decide (je a b<0)=false by
     rw[u,qpz];cases a.drop b.length<;>simp[je])
    have j:¬ (a.length:Int)<(b.length:Int):=by omega
    go_wp2;go_ret;exact⟨by rw[g];rfl,s⟩
  ·obtain rfl:k=a.length:=by omega
   by_cases f:a.length<b.length
   ·have j:(a.length:Int)<(b.length:Int):=by omega
    have g:=qhp (show decide (je a b<0)=true by
     rw[u,qpz,qkd (show a.length<b.length by omega)];simp[je])
    clear f;go_wp2;go_ret;exact⟨by rw[g];rfl,s⟩
   ·have j:¬ (a.length:Int)<(b.length:Int):=by omega
    have g:=qhp (show decide (je a b<0)=false by
     rw[u,qpz,qkr (show b.length<=a.length by omega)];simp[je])
    clear f;go_wp2;go_ret;exact⟨by rw[g];rfl,s⟩
def Zx(b:List Par)(a:Int):Int:=if zt b a=0 then((x9 b a (qO b.length)).length:Nat) else 0
def yS(c:List Par)(a:Int)(m:Nat)(b q:List Int):List Int :=
 match x9 c a q with
 | []=>b
 | p::_=>if b.length<m\/je p b<0 then p else b
def lvR(c:List Par)(a:Int)(b:List Int)(m:Nat):List Int:=(zE (qO c.length) m).foldl (yS c a m) b
def jW(b:List Par)(a:Int)(k:Nat):List Int:=(qmG 1 k).foldl (lvR b a) []
def Kb(b:List Par)(a:Int):List Int:=if zt b a=0 then jW b a b.length else[]
def KO(b:List Par)(a:Int)(k:Nat):jW b a (k+1)=lvR b a (jW b a k) (k+1):=by
 unfold jW;rw[qqn,qms,Nat.add_comm 1 k];rfl
def YZ:∀k (l q:List Int),q∈zE l k->q.Sublist l
 | 0,_,q,b=>by simp[zE] at b;subst b;exact List.nil_sublist _
 | k+1,l,q,b=>by
  have⟨i,c,f⟩:=qmE.1 b;obtain⟨m,hm,rfl⟩:=qlp.1 f;have a:=qjC.1 c;have e:=YZ k _ m hm;rw[qhz a,qhC];have d:=qkd a;exact((e.cons₂ l[i]).t (by rw[<- d];exact List.Sublist.refl _)).t (List.drop_sublist i l)
def q8b{c:List Par}{a:Int}{m:Nat}{b q:List Int}(g:b.length<=5)(d:q.length<=5):(yS c a m b q).length<=5:=by
 unfold yS;split
 ·exact g
 ·rename_i p T f
  have e:p∈x9 c a q:=by rw[f];simp
  have h:=(Qm q.length (Yh q) (by rw[(q20 q).length_eq];exact d)).2 p (qmk.1 e).1;split<;>omega
def q6x(Q:qhu)(b:List Par)(a:Int)(w:qhr)(G:zi 0 w.heap.size w Q b) :qis Ya 60 #[.agg #[Q,a]] w λe U=>e=.returned (.tuple #[(Zx b a),(zt b a)])/\w.gb U none:=by
 obtain⟨r,q,rfl,X,-⟩:=G.cell;have⟨Y,n,L,s,j,d⟩:=Jy w (.cells #[.slice r b.length q,a] 24);have k:=λ(W:qhr) (h:n.gb W none)=>((G.kept (j.t h)).mono (qhv _) (j.t h).size:zi 0 W.heap.size W (.slice r b.length q) b);have D:=qhp (show ∀W,n.gb W none->W.cell? Y=some (.slice r b.length q)/\W.cell? ⟨Y,1,none⟩=some (.int .i64 a) from λW h=>⟨q8 (bk h d) rfl,q8 (bk h d) rfl⟩);have l:=qhp (KF 0 n.heap.size _ b a n ⟨_,rfl,k n (qhD _ _)⟩ (qhv _));have⟨S,R,F⟩:=ze s L j;have q0:=q8 d (o:=0) rfl;have q1:=q8 d (o:=1) rfl;by_cases p:zt b a=0;rotate_left
 ·have I:(zt b a == 0)=false:=by rw[beq_eq_false_iff_ne];exact p
  have T:=qhp p;clear G k s L j d p;obtain⟨c,C⟩:∃c,c=zt b a:=⟨_,rfl⟩;rw[<- C] at l I ⊢;clear C;go_enter Tp.x60,Tryz.ntmps60;go_upto_region 1 with(fail);rw[<- R,show w.alloc (.cells #[.slice r b.length q,a] 24)=n from S.symm];go_wp2_with (go_at_call 53;refine l.mono ?_;rintro e P ⟨rfl,i⟩;have f:=qhp (F.t i);clear i);go_ret2;exact⟨by rw[show Zx b a=0 from if_neg T.out];rfl,f⟩
 rw[p] at l ⊢;have T:=qhp p;have H:=Yv p;have h5:=H.len;have O:=qhp λ(W:qhr)=>Kw r b.length q a W (by omega);have hN:(qO b.length).length<=5:=by rw[z6];exact h5
 have N:=qhp λ(W:qhr) (h:n.gb W none) (v:qhu) {V:Nat} (hv:qg V W.heap.size W v (qO b.length))=>q1y _ v b a (qO b.length) W (k W h) (hv.mono (qiu _) (qhv _)).g H (λx Z=>vU Z) (Qj (xB _)) hN;have HL:=qhp (show Zx b a=((x9 b a (qO b.length)).length:Nat) from if_pos p);clear G k s L j d p H;go_enter Tp.x60,Tryz.ntmps60;go_upto_region 1 with(fail);rw[<- R,show w.alloc (.cells #[.slice r b.length q,a] 24)=n from S.symm];go_upto_region 4 with(go_at_call 53;refine l.mono ?_;rintro e P ⟨rfl,i⟩;have f:=qhp i;clear i);have y:=qhp (qe P none);refine qz 3 (λW=>W.cell? Y=some (.slice r b.length q)/\W.cell? ⟨Y,1,none⟩=some (.int .i64 a)) (by kernel_rfl) (by kernel_rfl) (D _ (f.t y)) (λhHeld=>?_);simp only[qhE,qi1,qib,qiA,qi6,qie,qif,qio,qii,qi7];refine tk 0 (h:=tk 1 (h:=?_));try go_frame
 refine rdc 2 λK hK=>?_;go_simp;go_at_call 118;refine(O _).mono ?_;rintro e w5 ⟨v5,rfl,B,u,-⟩;obtain⟨b5,c5,e5,-,-⟩:=u.cell;subst e5;replace y:=qhp (y.t B);have M:=qhp u;clear B u;refine hK.out _ _ (D _ (f.t y)) (λhHeld=>?_);try go_frame
 refine⟨by kernel_rfl,?_⟩;simp only[qig,qit];clear hHeld;go_wp2_with (go_at_call 115;refine(N _ (f.t y) _ M).mono ?_;rintro e w6 ⟨v6,rfl,A,z⟩;obtain⟨fa,fc,rfl,-⟩:=z.at;have G6:=qhp (F.t ((f.t y).t A));clear A z);go_ret2;exact⟨by rw[HL];rfl,G6⟩
def q8z(pv:qhu)(d:List Par)(a:Int)(w:qhr)(hP:zi 0 w.heap.size w pv d) :qis Ya 61 #[.agg #[pv,a]] w λe w'=>∃v,e=.returned (.tuple #[v,(zt d a)])/\w.gb w' none/\qg 0 w'.heap.size w' v (Kb d a):=by
 obtain⟨X,V,rfl,s7,-⟩:=hP.cell;have⟨Y,Z,hY,b0,G,A⟩:=Jy w (.cells #[.slice X d.length V,a] 24);have P:=λ(W:qhr) (h:Z.gb W none)=>((hP.kept (G.t h)).mono (qhv _) (G.t h).size:zi 0 W.heap.size W (.slice X d.length V) d);have d6:=qhp (show ∀W,Z.gb W none->W.cell? Y=some (.slice X d.length V)/\W.cell? ⟨Y,1,none⟩=some (.int .i64 a) from λW h=>⟨q8 (bk h A) rfl,q8 (bk h A) rfl⟩);have S:=qhp (KF 0 Z.heap.size _ d a Z ⟨_,rfl,P Z (qhD _ _)⟩ (qhv _));have⟨HW,HY,k5⟩:=ze b0 hY G;have q0:=q8 A (o:=0) rfl;have q1:=q8 A (o:=1) rfl;by_cases h0:zt d a=0;rotate_left
 ·have n2:(zt d a == 0)=false:=by rw[beq_eq_false_iff_ne];exact h0
  have H0:=qhp h0;clear hP P b0 hY G A h0;obtain⟨c,g5⟩:∃c,c=zt d a:=⟨_,rfl⟩;rw[<- g5] at S n2 ⊢;clear g5;go_enter Tp.x61,Tryz.ntmps61;go_upto_region 1 with(fail);rw[<- HY,show w.alloc (.cells #[.slice X d.length V,a] 24)=Z from HW.symm];go_wp2_with (go_at_call 53;refine S.mono ?_;rintro e w2 ⟨rfl,F⟩;have M:=qhp (k5.t F);clear F);go_ret2;exact⟨_,rfl,M,by rw[show Kb d a=[] from if_neg H0.out];exact qg.nil _ _ _⟩
 rw[h0] at S ⊢;have H0:=qhp h0;have hy:=Yv h0;have h5:=hy.len;have q2:=qhp λ(W:qhr)=>Kw X d.length V a W (by omega);have HN:=qhp (show(qO d.length).length<=5 by rw[z6];exact h5);have p9:=qhp λ(W:qhr) (h:Z.gb W none) (v:qhu) (q:List Int) (hs:q.Sublist (qO d.length)) (hv:qT 0 W.heap.size W v q)=>q1y _ v d a q W (P W h) hv hy (λx hx=>vU (hs.subset hx)) ((Qj (xB _)).sublist hs) (qhB hs.length_le HN);have HL:=qhp (show Kb d a=jW d a d.length from if_pos h0);clear hP P b0 hY G A h0 hy;go_enter Tp.x61,Tryz.ntmps61;go_upto_region 1 with(fail);rw[<- HY,show w.alloc (.cells #[.slice X d.length V,a] 24)=Z from HW.symm];go_upto_region 5 with(go_at_call 53;refine S.mono ?_;rintro e w2 ⟨rfl,F⟩;have M:=qhp F;clear F);go_wp2;go_loopw [5,6] (λbv mv wr=>∃m:Nat,mv=.int .i64 ((m:Int)+1)/\m<=d.length/\w2.gb wr none/\qg 0 wr.heap.size wr bv (jW d a m)/\(jW d a m).length<=5) (λ_ mv _=>(10 - qiF mv).toNat)
 case atStart=>exact⟨0,rfl,by omega,qhD _ _,qg.nil _ _ _,by simp[jW]⟩
 case round=>
  obtain⟨m,rfl,hm,H,k,n3⟩:=hrel;have⟨HG,k8⟩:=qE H k;have⟨s6,s5⟩:=d6.out wr (M.t H);have s9:IntKind.i64.wrap ((m:Int)+1+1)=(m:Int)+1+1:=qin _ (by omega);clear H k;by_cases t3:m<d.length
  ·have m7:(m:Int)+1<=(d.length:Int):=by omega
   obtain⟨L,hL⟩:∃L,L=zE (qO d.length) (m+1):=⟨_,rfl⟩;have t6:L.length<=3125:=by rw[hL];exact qhB (xy (m+1) _ HN).1 (QJ (by omega))
   have p5:=qhp (show ∀q∈L,q.Sublist (qO d.length) by rw[hL];exact λq h=>YZ _ _ q h);have q3:=qhp (show jW d a (m+1)=L.foldl (yS d a (m+1)) (jW d a m) by rw[KO,hL];rfl);have p3:=qhp (show ∀(W:qhr) (lo hi:Nat) (b:Option qiG) (c:Nat),qT lo hi W (.slice b (qO d.length).length c) (qO d.length)->(qO d.length).length<=c->qis Ya 86 #[.slice b (qO d.length).length c,.int .i64 ((m:Int)+1)] W λe w'=>∃v,e=.returned v/\W.gb w' none/\qQ W.heap.size w' v L from λW lo hi b c h hc=>by
    rw[hL];exact YY (m+1) (by omega) _ _ _ _ _ _ h HN hc)
   clear hL;go_upto_region 9 with(first
    | (go_at_call 118;refine(q2 _).mono ?_;rintro e w3 ⟨v3,rfl,d5,c8,g6⟩;have e7:=c8;obtain⟨b3,c3,rfl,-,-⟩:=c8.cell;have k7:=qhp (g6 _ _ _ rfl);clear g6;have p8:=qhp (HG.t d5);have a8:=qhp d5;have h9:=qhp e7;clear d5 c8 e7)
    | (go_at_call 86;refine(p3 _ _ _ _ _ h9.g k7).mono ?_;rintro e w4 ⟨v4,rfl,c9,b7⟩;obtain⟨la,lc,rfl,-⟩:=b7.at;have d8:=qhp (p8.t c9);have n9:=qhp (b7.low (qiu _));have k0:=qhp c9;clear c9 b7))
   clear h9 k7;have g8:=n3;go_wp2;go_loopw [5,8] (λbv iv wr=>∃i:Nat,iv=.int .i64 i/\i<=L.length/\w4.gb wr none/\qg 0 wr.heap.size wr bv ((L.take i).foldl (yS d a (m+1)) (jW d a m))/\((L.take i).foldl (yS d a (m+1)) (jW d a m)).length<=5) (λ_ iv _=>(L.length - qiF iv).toNat)
   case atStart=>exact⟨0,rfl,by omega,qhD _ _,by simpa using(k8.kept (a8.t k0)).mono (qhv _) (a8.t k0).size,by simpa using g8⟩
   case round=>
    obtain⟨i,rfl,hi,H,k,s⟩:=hrel;by_cases m8:i<L.length
    ·obtain⟨q,hq⟩:∃q,L[i]?=some q:=⟨_,qhz m8⟩;have⟨_,_,er,hr⟩:=(n9.kept H).at;injection er with er1 _ er3;subst er1 er3;obtain⟨g,rfl,a6⟩:=hr (by omega);have⟨y,e5,a9⟩:=a6 i q hq;obtain⟨qb,qc,rfl,-,-⟩:=a9.cell;have t4:(i:Int)<(L.length:Int):=by omega
     have b8:=p5.out q (qi9 hq);obtain⟨f,C⟩:∃b,b=(L.take i).foldl (yS d a (m+1)) (jW d a m):=⟨_,rfl⟩;have l:=qhp (show(L.take (i+1)).foldl (yS d a (m+1)) (jW d a m)=yS d a (m+1) f q by
      rw[qj7,hq,C,qms];rfl)
     rw[<- C] at k s;have I:=qhp (show(yS d a (m+1) f q).length<=5 from q8b s (qhB b8.length_le HN));have d7:=qhp ((M.t d8).t H);have u5:=qhp (d8.t H);have k9:=qhp k;have n8:=qhp (show ∀W,wr.gb W none->W.cell? Y=some (.slice X d.length V)/\W.cell? ⟨Y,1,none⟩=some (.int .i64 a)/\W.cell? ⟨g,i,none⟩=some (.slice qb q.length qc) from λW h=>⟨(d6 W (d7.t h)).1,(d6 W (d7.t h)).2,h.cl e5⟩);have k6:=qhp λ(W:qhr) (h:wr.gb W none)=>p9 W (d7.t h) _ q b8 ((a9.kept h).mono (qhv _) h.size).g;have j:=qhp (show yS d a (m+1) f q=(match x9 d a q with | []=>f | p::_=>if f.length<m+1\/je p f<0 then p else f) from rfl);have p7:=qhp H;generalize x9 d a q=O at k6 j;generalize yS d a (m+1) f q=nb at l I j;clear H k C a6 hr a9 hq b8 e5;go_upto_region 12 with(fail);go_cut [9] from 32 to 37 (λv9 wx=>wr.gb wx none/\qQ 0 wx v9 O)
     case first=>
      have HT:=qhp (qe wr none);refine qz 5 (λW=>W.cell? Y=some (.slice X d.length V)/\W.cell? ⟨Y,1,none⟩=some (.int .i64 a)/\W.cell? ⟨g,i,none⟩=some (.slice qb q.length qc)) (by kernel_rfl) (by kernel_rfl) (n8 _ HT) (λhHeld=>?_);simp only[qhE,qi1,qib,qiA,qi6,qie,qif,qio,qii,qi7];refine tk 0 (h:=tk 1 (h:=tk 2 (h:=tk 3 (h:=tk 4 (h:=?_)))));try go_frame
      refine⟨by kernel_rfl,?_⟩;simp only[qig,qit];clear hHeld;go_wp2_with (go_at_call 115;refine(k6 _ HT).mono ?_;rintro e w6 ⟨v6,rfl,e8,e6⟩;have G6:=qhp (HT.t e8);have R6:=qhp (e6.low (qiu _));clear e8 e6);go_meet;exact⟨G6,R6⟩
     case rest=>
      obtain⟨hg,b6⟩:=hcut;obtain⟨oa,oc,rfl,N⟩:=b6.at;have R:=qhp (p7.t hg);have U:=qhp ((k9.kept hg).mono (qhv _) hg.size);obtain⟨bb,bc,rfl,-,-⟩:=k9.out.cell;cases O with
      | nil=>
       clear N b6 hg;simp only[qi1];have j:=qhp (show nb=f from j);go_wp2;go_roundw
       case rel=>exact⟨i+1,by simp,by omega,R,by rw[l,j];exact U,by rw[l];exact I⟩
       case measure=>simp[qiF];omega
      | cons p T=>
       obtain⟨n,hn,m6⟩:∃n,n=(p::T).length/\0<n:=⟨_,rfl,by simp⟩;rw[<- hn] at N ⊢;obtain⟨g9,rfl,B⟩:=N m6;have⟨pv,m5,b9⟩:=B 0 p rfl;obtain⟨pb,pc,rfl,-,-⟩:=b9.cell;have Q:=qhp b9;have t2:(0:Int)<(n:Int):=by omega
       have p4:=qhp m5;have j:=qhp (show nb=if f.length<m+1\/je p f<0 then p else f from j);clear hn N B b6 hg b9;by_cases D:f.length<m+1
       ·have g7:(f.length:Int)<(m:Int)+1:=by omega
        have j:=qhp (show nb=p by rw[j,if_pos (.inl D)]);clear D;go_wp2;go_roundw
        case rel=>exact⟨i+1,by simp,by omega,R,by rw[l,j];exact Q,by rw[l];exact I⟩
        case measure=>simp[qiF];omega
       ·have g7:¬ (f.length:Int)<(m:Int)+1:=by omega
        by_cases z:je p f<0
        ·have d9:=qhp (show decide (je p f<0)=true from decide_eq_true z);have j:=qhp (show nb=p by rw[j,if_pos (.inr z)]);clear D z;go_wp2_with (go_at_call 119;refine(JY _ _ p f _ Q U).mono ?_;rintro e w7 ⟨rfl,u⟩;rw[d9];have c7:=u.cl p4;have r:=qhp u;clear u);go_roundw
         case rel=>exact⟨i+1,by simp,by omega,R.t r,by rw[l,j];exact(Q.kept r).mono (qhv _) r.size,by rw[l];exact I⟩
         case measure=>simp[qiF];omega
        ·have d9:=qhp (show decide (je p f<0)=false from decide_eq_false z);have j:=qhp (show nb=f by rw[j,if_neg (λh=>h.elim D z)]);clear D z;go_wp2_with (go_at_call 119;refine(JY _ _ p f _ Q U).mono ?_;rintro e w7 ⟨rfl,u⟩;rw[d9];have r:=qhp u;clear u);go_roundw
         case rel=>exact⟨i+1,by simp,by omega,R.t r,by rw[l,j];exact(U.kept r).mono (qhv _) r.size,by rw[l];exact I⟩
         case measure=>simp[qiF];omega
    ·obtain rfl:i=L.length:=by omega
     rw[qjs,<- q3] at k s;have q4:=qhp k;have p6:=qhp (d8.t H);clear H k;go_wp2;go_roundw
     case rel=>exact⟨m+1,by simp,by omega,p6,q4,s⟩
     case measure=>simp[qiF];omega
  ·obtain rfl:m=d.length:=by omega
   have m7:¬ (d.length:Int)+1<=(d.length:Int):=by omega
   go_wp2;go_ret2;exact⟨_,rfl,(k5.t M).t HG,by rw[HL];exact k8⟩
end
section
open Go.RowKit Go.Shelf
attribute [local go_sem] Oper.semAt_some
structure q0t(w3:qhr)(Bl N:Nat)(W:qhr):Prop where
 os:W.os=w3.os
 tape:W.tape=w3.tape
 output:W.output=w3.output
 size:w3.heap.size<=W.heap.size
 keep:∀k,k<w3.heap.size->k≠Bl->k≠N->W.heap[k]?=w3.heap[k]?
def q0t.stp{b:qhr}{d N:Nat}{G:Nat->Prop}{A C:qhr}(h:q0t b d N A)(a:Stp b.heap.size d G A C):q0t b d N C :=
 ⟨a.os.trans h.os,a.tape.trans h.tape,a.output.trans h.output,qhB h.size a.size,λk c e f=>(a.keep k (qi0 c h.size) (.inl ⟨c,e⟩)).t (h.keep k c e f)⟩
def q0t.grown{b:qhr}{d N:Nat}{A C:qhr}(h:q0t b d N A)(a:A.gb C none):q0t b d N C :=
 ⟨a.os.trans h.os,a.tape.trans h.tape,a.output.trans h.output,qhB h.size a.size,λk c e f=>(a.block k (qi0 c h.size) (by simp)).t (h.keep k c e f)⟩
def q0t.set{a:qhr}{c N:Nat}{A:qhr}(h:q0t a c N A)(o:Nat)(v:qhu):q0t a c N (A.setCell ⟨N,o,none⟩ v) :=
 ⟨h.os,h.tape,h.output,by simpa[qk2] using h.size,λk f d b=>(qj4 _ _ _ k (λe=>b e)).t (h.keep k f d b)⟩
def qdr:∀n,n<=5->(jB (qO n)).length<=120
 | 0,_=>by decide
 | 1,_=>by decide
 | 2,_=>by decide
 | 3,_=>by decide
 | 4,_=>of_decide_eq_true (by kernel_rfl)
 | 5,_=>of_decide_eq_true (by kernel_rfl)
 | n+6,h=>by omega
def q9r(pv:qhu)(b:List Par)(a:Int)(w:qhr)(hP:qr 0 w.heap.size w pv b)(T:YOk b a) :qis Ya 59 #[.agg #[pv,a]] w λe w'=>e=.returned (.tuple #[((jB (qO b.length)).countP (zl b a):Nat),.int .i64 0])/\w.gb w' none:=by
 obtain⟨r,q,rfl,n2,-⟩:=hP.cell;have⟨HP,M⟩:=qE hP T;have hn:b.length<=1000:=by have:=T.len;omega
 clear hP T;refine(qjA (n:=6)).1 ?_;refine qnC Tp.x59 rfl trivial ?_ rfl;simp only[Tryz.ntmps59,qim,qhE,qi1,qib,qiA,qie,qif,qio,ql1,qii,qi7]
 gi_wp2_with (first
  | (refine⟨trivial,?_⟩;gi_at_call 81;refine(qjA.2 (vg 0 w.heap.size _ _ b a [] _ (HP.kept (qhq _ _ none)) (qg.nil _ _ _) (by simp) M (POk.nil b M.l1))).mono ?_;rintro e w2 ⟨rfl,c9⟩;have X:=qhp ((qhq w (.cells #[.slice r b.length q,a] 24) none).t c9);clear c9)
  | (refine⟨trivial,?_⟩;gi_at_call 100;refine(qjA.2 (vh r b.length q a _ hn)).mono ?_;rintro e Z ⟨v5,rfl,c8,V⟩;obtain⟨b5,k5,rfl,-,-⟩:=V.cell;have d9:=qhp c8;have d8:=qhp V;clear c8 V)
  | (refine⟨trivial,?_⟩;gi_at_call 117;refine(qjA.2 (Zl _ _ _ _)).mono ?_;rintro e w6 ⟨rfl,rfl⟩))
 obtain⟨Y,I⟩:∃Y,Y=w2.heap.size:=⟨_,rfl⟩;obtain⟨N,L⟩:∃N,N=Z.heap.size:=⟨_,rfl⟩;obtain⟨u,F⟩:∃u,u=Z.alloc (.cells #[.slice b5 (qO b.length).length k5] 29):=⟨_,rfl⟩;rw[<- I,<- L,<- F];have d:=d9.out;have f:Z.gb u none:=by rw[F];exact qhq _ _ none
 have R:(w2.alloc (.cells #[.slice r b.length q,a] 91)).heap.size=Y+1:=by rw[qhH,I]
 have b8:u.heap[Y]?=some (.cells #[.slice r b.length q,a] 91 (0,0)):=by
  rw[I];exact bk (d.t f) (qq (qhA w2 _))
 have c3:u.heap[Y+1]?=some (.cells #[.int .i64 0] 3 (0,0)):=by
  have:=qhA (w2.alloc (.cells #[.slice r b.length q,a] 91)) (.cells #[.int .i64 0] 3);rw[R] at this;exact bk (d.t f) this
 have l5:u.heap[N]?=some (.cells #[.slice b5 (qO b.length).length k5] 29 (0,0)):=by rw[F,L];exact qhA Z _
 have n7:Y+1<N:=by
  have:=d.size;rw[qhH,R] at this;omega
 have g8:u.heap.size=N+1:=by rw[F,qhH,L]
 have U:w.gb u none:=X.out.t (((qhq _ _ none).t (qhq _ _ none)).t (d.t f));have l4:qg 0 u.heap.size u (.slice b5 (qO b.length).length k5) (qO b.length):=(d8.kept f).mono (qiu _) f.size;have b7:w.heap.size<=Y:=by rw[I];exact X.size
 have h8:b.length<=5:=M.out.len;have l7:=qhp (HP.kept U);have⟨l9,l6,q4,m3,d6⟩:=ZW c3 b8 g8 U b7;clear I L F d f R b8 c3 U X d9 d8 b7;refine yz rfl (by omega) (gf:=149) (lb:=#[.pointer (some N)]) rfl trivial (enters_of Tp.x149 (by kernel_rfl) rfl)
  (xA 5 N b5 k5 (qO b.length) (qO b.length) (vQ (by rw[z6];omega) (xB _)) (λx hx=>by have:=vU hx;omega) (Qj (xB _)) (by rw[z6];omega) u l5 l4) (qns _ _) (λ_=>rfl) (G0:=ZP) (λh=>h) (by omega) (q22)
  (λO G W=>G=ZP/\q0t u N (Y+1) W/\W.heap[Y+1]?=some (.cells #[.int .i64 ((O.map qld).countP (zl b a):Nat)] 3 (0,0)))
  (λ_ _ _ _=>False)
  (λs G A h k H=>by rw[h.1] at H;exact H.elim)
  (λs G A C h b0=>⟨h.1,h.2.1.stp b0,(b0.keep _ (qA h.2.2) (.inl ⟨by omega,by omega⟩)).t h.2.2⟩)
  (λ_ _ _ _ _ h _=>h)
  ⟨rfl,⟨rfl,rfl,rfl,qhv _,λ_ _ _ _=>rfl⟩,l9⟩
  (λx=>{ tmps:=#[.agg #[.slice r b.length q,a],.pointer (some w.heap.size),.int .i64 0,.int .i64 0,.pointer (some Y),.int .i64 0,.pointer (some (Y+1:Nat)),x.2,.tuple #[.agg #[.slice r b.length q,a],.int .i64 0],.agg #[.slice r b.length q,a],.tuple #[.agg #[.slice r b.length q,a],.int .i64 0],.agg #[.slice r b.length q,a],.int .i64 0,.int .i64 0,.bool false,qhx,.agg #[.slice r b.length q,a],.slice b5 (qO b.length).length k5,.func (.func 149) #[] #[.pointer (some N)],x.2,qhx,qhx,qhx,qhx,qhx,qhx],defers:=[] }) ?assign ?body ?done ?stop
 case assign=>
  intro l x W K hK
  gi_wp2
  exact hK
 case body=>
  rintro l O G x W ⟨rfl,g,j⟩ hx ⟨t,ht⟩;have P:=(g.keep Y (by omega) (by omega) (by omega)).t l6;have b9:qr 0 W.heap.size W (.slice r b.length q) b:=by
   have⟨b',c',e,hl,hr⟩:=l7.out;refine⟨b',c',e,hl,λg9=>?_⟩;have⟨B,o,cs,fr,e1,e2,e3,e4,e5⟩:=hr g9;have:=d6.out;have:=g.size;exact⟨B,o,cs,fr,e1,e2,by omega,(g.keep B (by omega) (by omega) (by omega)).t e4,e5⟩
  obtain⟨Q,v⟩:=hx;have S:PIn b x.1:=⟨λy hy=>vU (v.2.2.1 y hy),v.2.1,by have:=v.1;rw[z6] at this;omega⟩;have k0:(O.map qld).countP (zl b a)<=120:=by
   have h1:=qdr b.length h8;rw[show jB (qO b.length)=_ from ht,qj1,qk1,qj1] at h1;have h2:=List.countP_le_length (p:=zl b a) (l:=O.map qld);omega
  obtain⟨x1,x2⟩:=x;obtain⟨xb,xc,a9,-,-⟩:=Q.cell;dsimp only at a9 S v;subst a9;have c1:W.cell? Y=some (.slice r b.length q):=q8 P rfl;have c2:W.cell? ⟨Y,1,none⟩=some (.int .i64 a):=q8 P rfl;obtain⟨z,hz⟩:∃z,z=zl b a x1:=⟨_,rfl⟩;have b6:qis Ya 114 #[.agg #[.slice r b.length q,a],.slice xb x1.length xc] W λe w'=>e=.returned (.bool z)/\W.gb w' none:=by
   rw[hz];exact Ks 0 W.heap.size _ _ b a x1 W ⟨_,rfl,b9⟩ Q (qhv _) M S
  have HC:=qhp (show((O++[(x1,qjc xb x1.length xc)]).map qld).countP (zl b a)=(O.map qld).countP (zl b a)+if z then 1 else 0 by rw[qk1,List.countP_append,hz];simp[List.countP_cons]);generalize (O.map qld).countP (zl b a)=c at k0 j HC;have⟨e6,i,d7⟩:=ze b6 g j;clear b6 hz Q v g j P b9 S ht;cases z with
  | false=>
   gi_wp2_with (refine⟨trivial,?_⟩;gi_at_call 114;refine(CallsIn.inRound l (qjA.2 e6)).mono ?_;rintro e Z ⟨rfl,d⟩)
   refine⟨ZP,⟨d.tape,d.size,λk H _ _=>d.block k H (by simp),λk H=>H.elim⟩,rfl,i.grown d,?_⟩;rw[HC];exact bk d d7
  | true=>
   have n4:IntKind.i64.wrap ((c:Int)+1)=(c:Int)+1:=qin _ (by omega)
   gi_wp2_with (refine⟨trivial,?_⟩;gi_at_call 114;refine(CallsIn.inRound l (qjA.2 e6)).mono ?_;rintro e Z ⟨rfl,d⟩;have n5:=bk d d7;have k5:=q8 (o:=0) n5 rfl;have z5:=qn (o:=0) n5;have l8:=qhp n5;clear n5)
   refine⟨ZP,⟨d.tape,by simpa[qk2] using d.size,λk H hn _=>?_,λk H=>H.elim⟩,rfl,(i.grown d).set 0 _,?_⟩
   ·exact(qj4 _ _ _ k (λe=>by have e':k=Y+1:=e;omega)).t (d.block k H (by simp))
   ·rw[HC,qi l8];rfl
 case done=>
  rintro D ys G W hD a8 ⟨rfl,g,j⟩ hK p3;obtain⟨c,hc⟩:∃c,c=(jB (qO b.length)).countP (zl b a):=⟨_,rfl⟩;rw[a8,show zA (qO b.length) (qO b.length).length []=jB (qO b.length) from rfl,<- hc] at j;have k6:=q8 (o:=0) j rfl;have⟨i,HC⟩:=qE g hc;clear g j a8 hc
  gi_wp2
  refine⟨by simp,.inl ⟨_,_,rfl,qnA hK,?_⟩⟩;refine⟨.tuple #[(c:Nat),.int .i64 0],by simp[qke,Tryz.results59,go_sem],by rw[HC],?_⟩;have h9:=i.out.size;have n9:=d6.out;exact Jr m3 ⟨i.os,i.tape,i.output,h9,λk H=>i.keep k (by omega) (by omega) (by omega)⟩ (ql8 W D (.deferred none)) (by omega)
 case stop=>
  rintro D c O G W hD _ h;exact h.elim
end
section
open Go.RowKit
def qfr(n:Nat):Bool:=(qil (n+1)).all λk=>(zE (qO n) k).all λq=>(Q0 q.length (Yh q) == jB q) && (q.length == k) && (jB q).all λp=>p.length == k
def q8s:∀n,n<=5->qfr n=true
 | 0,_=>by kernel_rfl
 | 1,_=>by kernel_rfl
 | 2,_=>by kernel_rfl
 | 3,_=>by kernel_rfl
 | 4,_=>by kernel_rfl
 | 5,_=>by kernel_rfl
 | n+6,h=>by omega
def q89:∀n,n<=5->jZ (qO n) 0=[]::(qmG 1 n).flatMap (zE (qO n))
 | 0,_=>by kernel_rfl
 | 1,_=>by kernel_rfl
 | 2,_=>by kernel_rfl
 | 3,_=>by kernel_rfl
 | 4,_=>by kernel_rfl
 | 5,_=>by kernel_rfl
 | n+6,h=>by omega
def q7c{n k:Nat}(d:n<=5)(e:k<=n){q:List Int}(c:q∈zE (qO n) k):(∀b a,x9 b a q=(jB q).filter (zl b a))/\q.length=k/\∀p∈jB q,p.length=k:=by
 have h:=qiB.1 (qiB.1 (q8s n d) k (qjC.2 (by omega))) q c;simp only[qic,beq_iff_eq,qiB] at h;exact⟨λb a=>by unfold x9;rw[h.1.1],h.1.2,h.2⟩
def q9b:∀n,n<=5->qO n∈zE (qO n) n
 | 0,_=>by decide
 | 1,_=>by decide
 | 2,_=>by decide
 | 3,_=>by decide
 | 4,_=>by decide
 | 5,_=>by decide
 | n+6,h=>by omega
def qch(a:List Par)(b:Int)(c:a.length<=5):(jB (qO a.length)).countP (zl a b)=(x9 a b (qO a.length)).length:=by
 rw[(q7c c (qhv _) (q9b _ c)).1,List.countP_eq_length_filter]
def qex(c:List Par)(a:Int)(m:Nat):∀(L:List (List Int)) (b:List Int),b.length<=m->(∀q∈L,(∀c a,x9 c a q=(jB q).filter (zl c a))/\q.length=m/\∀p∈jB q,p.length=m) ->L.foldl (xS c a) (true,b)=(true,L.foldl (yS c a m) b)/\(L.foldl (yS c a m) b).length<=m
 | [],b,i,_=>⟨rfl,i⟩
 | q::L,b,i,h=>by
  have⟨o,r,n⟩:=h q (by simp);have e:xS c a (true,b) q=(true,yS c a m b q)/\(yS c a m b q).length<=m:=by
   unfold xS yS;rw[o c a];have f:((jB q).filter (zl c a)).head?=(jB q).find? (zl c a):=List.head?_filter;cases hO:(jB q).filter (zl c a) with
   | nil=>
    rw[hO] at f;rw[<- f];exact⟨rfl,i⟩
   | cons p T=>
    rw[hO] at f;rw[<- f];have g:=n p (qmk.1 (show p∈(jB q).filter (zl c a) by rw[hO];simp)).1;simp only[List.head?_cons,true_and];unfold Z6;by_cases k:b.length<m
    ·rw[if_pos (Or.inl k)];have:decide (b.length<p.length)=true:=decide_eq_true (by omega);simp[g,k]
    ·have d:b.length=m:=by omega
     by_cases j:je p b<0
     ·simp[g,d,j]
     ·simp[g,d,j]
  rw[qln,qln,e.1];exact qex c a m L _ e.2 λx l=>h x (by simp[l])
def q5c(b:List Par)(a:Int)(c:b.length<=5):∀k,k<=b.length->((qmG 1 k).flatMap (zE (qO b.length))).foldl (xS b a) (true,[])=(true,jW b a k)/\(jW b a k).length<=k
 | 0,_=>⟨rfl,by simp[jW]⟩
 | k+1,e=>by
  have⟨g,h⟩:=q5c b a c k (by omega);have f:=qex b a (k+1) (zE (qO b.length) (k+1)) (jW b a k) (by omega) λq d=>q7c c e d;rw[qqn,qp7,qms,g,KO,List.flatMap_singleton,Nat.add_comm 1 k];exact f
def q8y(b:List Par)(a:Int)(g:1<=a)(c:b.length<=5):(jH b a (jZ (qO b.length) 0)).2=jW b a b.length:=by
 have e:jB []=[[]]:=rfl;have d:zl b a []=true:=by
  unfold zl qS;simp only[qmq,List.foldl_nil,qic,decide_eq_true_eq];exact⟨by omega,by rfl⟩
 have f:xS b a (false,[]) []=(true,[]):=by
  unfold xS;rw[e,List.find?_cons,d];simp
 unfold jH;rw[q89 _ c,qln,f,(q5c b a c _ (qhv _)).1]
def q9s(o:qhu)(g:List Par)(f:Int)(w:qhr)(l:qr 0 w.heap.size w o g) :qis Ya 59 #[.agg #[o,f]] w λe x=>e=.returned (.tuple #[(Zx g f),(zt g f)])/\w.gb x none:=by
 by_cases i:zt g f=0
 ·have r:=Yv i;rw[i,show Zx g f=((x9 g f (qO g.length)).length:Nat) from if_pos i,<- qch g f r.len];exact q9r o g f w l r
 ·obtain⟨v,u,rfl,y,-⟩:=l.cell;have h:=qhq w (.cells #[.slice v g.length u,f] 24) none;have j:=q46 0 w.heap.size _ _ g f [] _ (l.kept h) (qg.nil _ _ _) h.size (by simp);rw[show qbd g f []=zt g f from if_neg i,show Zx g f=0 from if_neg i] at *
  have⟨s,z⟩:=qE j h;have p:(zt g f == 0)=false:=by rw[beq_eq_false_iff_ne];exact i
  generalize zt g f=c at s p ⊢;clear l h j i;go_enter Tp.x59,Tryz.ntmps59;go_wp2_with (go_at_call 81;refine s.mono ?_;rintro e A ⟨a,n,b,d,rfl,k,-⟩;have q:=qhp (z.t k);clear k);go_ret2;exact⟨rfl,q.t (qhq _ _ none)⟩
def qbl(p:qhu)(g:List Par)(f:Int)(w:qhr)(l:qr 0 w.heap.size w p g) :qis Ya 44 #[.agg #[p,f]] w λe o=>∃v,e=.returned (.tuple #[v,(zt g f)])/\w.gb o none/\qg 0 o.heap.size o v (Kb g f):=by
 by_cases i:zt g f=0
 ·have q:=Yv i;rw[i,show Kb g f=jW g f g.length from if_pos i,<- q8y g f q.l1 q.len];exact q4c p g f w l q
 ·obtain⟨y,x,rfl,z,-⟩:=l.cell;have h:=qhq w (.cells #[.slice y g.length x,f] 24) none;have j:=q46 0 w.heap.size _ _ g f [] _ (l.kept h) (qg.nil _ _ _) h.size (by simp);rw[show qbd g f []=zt g f from if_neg i,show Kb g f=[] from if_neg i] at *
  have⟨u,A⟩:=qE j h;have r:(zt g f == 0)=false:=by rw[beq_eq_false_iff_ne];exact i
  generalize zt g f=c at u r ⊢;clear l h j i;go_enter Tp.x44,Tryz.ntmps44;go_wp2_with (go_at_call 81;refine u.mono ?_;rintro e B ⟨a,n,b,d,rfl,k,-⟩;have s:=qhp (A.t k);clear k);go_ret2;exact⟨_,rfl,s.t (qhq _ _ none),qg.nil _ _ _⟩
end
section
open Go Go.RowKit Go.Co Go.Sim Go.Conc Go.ConcN
def q38(Z:Nat)(q:qhr):Prop:=∀i,i<3->∃b c d,∃a:List Par,q.cell? ⟨Z,i*2,none⟩=some (.slice b a.length c)/\q.cell? ⟨Z,i*2+1,none⟩=some (.int .i64 d)/\zi 0 q.heap.size q (.slice b a.length c) a/\a.length<=21
def q38.kept{Z:Nat}{u w:qhr}(h:q38 Z u)(a:u.gb w none):q38 Z w:=λi f=>by
 have⟨b,c,e,d,l,k,j,g⟩:=h i f;exact⟨b,c,e,d,a.cl l,a.cl k,(j.kept a).mono (qhv _) a.size,g⟩
def q38.of{Z:Nat}{q:qhr}{l k j:Option qiG}{h g f:Nat}{r p n:Int}{d c b:List Par}(a:q.heap[Z]?=some (.cells #[.slice l d.length h,r,.slice k c.length g,p,.slice j b.length f,n] 24 (0,0)))(v:zi 0 q.heap.size q (.slice l d.length h) d)(u:zi 0 q.heap.size q (.slice k c.length g) c)(t:zi 0 q.heap.size q (.slice j b.length f) b)(e:d.length<=21/\c.length<=21/\b.length<=21):q38 Z q:=λi s=>by
 match i,s with
 | 0,_=>exact⟨_,_,_,d,q8 a (o:=0) rfl,q8 a (o:=1) rfl,v,e.1⟩
 | 1,_=>exact⟨_,_,_,c,q8 a (o:=2) rfl,q8 a (o:=3) rfl,u,e.2.1⟩
 | 2,_=>exact⟨_,_,_,b,q8 a (o:=4) rfl,q8 a (o:=5) rfl,t,e.2.2⟩
section
variable[J:JunkSet]{Post:qhu->qhr->Prop}{W:qhr}
def el11(D:Two Ya qi2)(g7:JunkSet.okf 137)(h9:∀i,¬ JunkSet.jk i)(k0:Ya.inits.idxOf? 11=none)(a6:Tryz.prog.inits.idxOf? 11=none){Y base:Option qiG}{I X y l7:Nat}{s:Int}{p:Par}{wq:qhr}(hl:(y:Int)<=9223372036854775807)(hr:0<y->∃lb lo,base=some ⟨lb,lo,none⟩/\∀i,i<y->∃x,wq.cell? ⟨lb,lo+i,none⟩=some (.int .i64 x))(h0:qX wq 0)(hY:I<=20->∃M:List Par,M.length=I/\zi 0 wq.heap.size wq (.slice Y I X) M)(F:∀w,(∀j,j<W.heap.size->w.heap[j]?=W.heap[j]?)->w.os=W.os->w.output=W.output->W.heap.size<=w.heap.size->Post (.bool true) w) :EL Ya qi2 11 Post W (G (qiz Ya 11 #[.agg #[.slice Y I X,s],.agg #[p.mn,p.mx,p.bears,p.tall],.slice base y l7] .normal) [ql 11]) wq:=by
 have a:Ya.funcs[(qij 11).fn]?=Tryz.prog.funcs[(qij 11).fn]?:=zd 11 (by decide);have c:Bot 11 [ql 11]:=⟨[],rfl⟩;rw[q91 (fn:=qol) (c0:=Tryz.f11.body.getD .skip) Tp.x11 (by kernel_rfl)];simp only[qol,qhC];walk_nrm;have⟨HR,m3⟩:=qE hr hY;clear hr hY;refine EL.sp D c a λT=>?_;go_wp2;obtain⟨A,hA⟩:∃A,A=(wq.tp T).heap.size:=⟨_,rfl⟩;rw[<- hA];have H:=(qhq (wq.tp T) (.cells #[.slice Y I X,s] 24) none).t (qhq _ (.cells #[p.mn,p.mx,p.bears,p.tall] 28) none);refine kR (λq=>(wq.tp q.tape).gb q none/\q.heap[A]?=some (.cells #[.slice Y I X,s] 24 (0,0))/\q.heap[A+1]?=some (.cells #[p.mn,p.mx,p.bears,p.tall] 28 (0,0))) ⟨tpg (T:=T) H,qq (by rw[hA];exact qhA _ _),by
  have:=qhA ((wq.tp T).alloc (.cells #[.slice Y I X,s] 24)) (.cells #[p.mn,p.mx,p.bears,p.tall] 28);rw[qhH,<- hA] at this;exact this⟩ λu1 hF=>?_
 obtain⟨g1,a1,p1⟩:=hF;clear H hA;by_cases a7:20<I
 ·have k7:(20:Int)<(I:Int):=by omega
  clear a7;refine EL.seq D c a ?_;refine EL.sp D c a λT=>?_;have c0:=q8 (w:=u1.tp T) a1 (o:=0) rfl;go_wp2;refine EL.tape (wq:=u1) ?_ T;clear c0;refine EL.cond D c a true (by rfl) ?_;simp only[if_true];refine EL.seq D c a ?_;refine EL.region D c a ?_;simp only[qim,qhE,qi1,qib,qi6,qil,qj2];refine EL.enter D c a (fk:=23) (args:=#[]) rfl rfl (λT=>by rw[qne (f:=23) rfl Tp.x23 (by kernel_rfl) rfl];walk_nrm) (zd 23 (by decide)) ?_;refine qh2 D g7 h9 k0 ⟨_,Tp.x11,qp4⟩ ?_ _ [ql 11] c a λv u hR=>?_
  ·obtain⟨cs,e,g,h0,c8⟩:=h0;exact⟨cs,e,g,blk (w:=wq.tp u1.tape) g1 (by simp) h0,c8⟩
  obtain⟨rfl,p8⟩:=hR;rw[qkj];walk_nrm;refine EL.list D c a [1] [_] (rest:=[]) rfl λT4=>?_;go_wp2;refine EL.tape (wq:=u) ?_ T4;refine EL.region_end D c a ?_;refine EL.retS D c a ?_;exact EL.last a6 rfl rfl qp4 rfl rfl F
 have p5:I<=20:=by omega
 clear a7;obtain⟨M,rfl,hP⟩:=m3.out p5;clear m3;refine EL.seq D c a ?_;refine EL.sp D c a λT=>?_;have c0:=q8 (w:=u1.tp T) a1 (o:=0) rfl;have k7:¬ (20:Int)<(M.length:Int):=by omega
 go_wp2;refine EL.tape (wq:=u1) ?_ T;clear c0;refine EL.cond D c a false (by rfl) ?_;refine EL.skip D c a ?_;refine EL.sp D c a λT=>?_;have m5:=qhp (show ∀W,(u1.tp T).gb W none->0<y->∃lb lo,base=some ⟨lb,lo,none⟩/\∀i,i<y->∃x,W.cell? ⟨lb,lo+i,none⟩=some (.int .i64 x) from λW h hp=>by
  have⟨lb,lo,e,hx⟩:=HR.out hp;refine⟨lb,lo,e,λi L=>?_⟩;have⟨x,hx⟩:=hx i L;exact⟨x,h.cell (w:=u1.tp T) (World.grownBy.cell (w:=wq.tp u1.tape) g1 hx (by simp)) (by simp)⟩)
 have e4:=qhp (show ∀w',(u1.tp T).gb w' none->w'.cell? A=some (.slice Y M.length X)/\w'.cell? ⟨A,1,none⟩=some (.int .i64 s)/\w'.cell? (A+1:Nat)=some (.int .i64 p.mn)/\w'.cell? ⟨A+1,1,none⟩=some (.int .i64 p.mx)/\w'.cell? ⟨A+1,2,none⟩=some (.int .i64 p.bears)/\w'.cell? ⟨A+1,3,none⟩=some (.int .i64 p.tall) from λw' h=>⟨q8 (bk h a1) rfl,q8 (bk h a1) rfl,q8 (bk h p1) rfl,q8 (bk h p1) rfl,q8 (bk h p1) rfl,q8 (bk h p1) rfl⟩);have m7:=qhp hP;have m6:=qhp (show ∀W,(u1.tp T).gb W none->zi 0 wq.heap.size W (.slice Y M.length X) M from λW h=>zi.kept (w:=u1.tp T) (zi.kept (w:=wq.tp u1.tape) (w':=u1) hP g1 (by simp)) h (by simp));clear hP HR a1 p1 k7;have k:=qhp (qe (u1.tp T) none);refine qz 4 (λw'=>w'.cell? A=some (.slice Y M.length X)/\w'.cell? ⟨A,1,none⟩=some (.int .i64 s)/\w'.cell? (A+1:Nat)=some (.int .i64 p.mn)/\w'.cell? ⟨A+1,1,none⟩=some (.int .i64 p.mx)/\w'.cell? ⟨A+1,2,none⟩=some (.int .i64 p.bears)/\w'.cell? ⟨A+1,3,none⟩=some (.int .i64 p.tall)) (by kernel_rfl) (by kernel_rfl) (e4 _ k) (λhHeld=>?_);simp only[qhE,qi1,qib,qiA,qi6,qie,qif,qio,qii,qi7];refine tk 0 (h:=tk 1 (h:=tk 2 (h:=?_)));try go_frame
 refine rdc 3 λK hK=>?_;go_simp;go_at_call 24;refine(q6d base y l7 _ hl (m5 _ k)).mono ?_;rintro e w2 ⟨rfl,k6,g5⟩;replace k:=qhp (k.t k6);have T2:=qhp g5;clear k6 g5;obtain⟨b,N⟩:∃b,b=u1.heap.size:=⟨_,rfl⟩;replace T2:=qhp (show zf w2 b 0 by rw[N];exact T2);rw[show(u1.tp T).drew.heap.size=b from N.symm];have m8:=qhp N;clear N;refine hK.out _ _ (e4 _ k) (λhHeld=>?_);try go_frame
 refine⟨by kernel_rfl,?_⟩;simp only[qig,qit];clear hHeld;have t2:=T2.out;have PW:=qhp (m6 _ k);go_wp2_with (go_at_call 25;refine(q3E 0 _ _ M s p b 0 w2 PW t2 (by omega)).mono ?_;rintro e w3 ⟨ms,ml,mv,wv,Z,e9,rfl,g8,-,e8,c3,b9⟩;have N3:=qhp g8;have M3:=qhp c3;have W3:=qhp b9;have Z3:=qhp e8;have YD:=qhp e9;obtain⟨mb,mc,rfl,-,-⟩:=c3.cell;obtain⟨wb,wc,rfl,-,-⟩:=b9.cell;clear g8 c3 b9 e8 e9);have p6:ms.length<=4:=YD.out.len;have g9:(ms++[p]).length<=21:=by simp;omega
 have g4:(wq.tp w3.tape).gb w3 none:=qdA (gb g1 (tpg k)) (tpg N3.1) (by rw[m8];exact g1.size);have f4:q38 Z w3:=q38.of Z3 ((zi.kept (w:=wq.tp w3.tape) m7 g4 (by simp)).mono (qhv _) g4.size) ((M3.mono (qiu _) (qhv _)).g) ((W3.mono (qiu _) (qhv _)).g) ⟨by omega,by omega,g9⟩;refine kR (λq=>(wq.tp q.tape).gb q none/\q38 Z q) ⟨g4,f4⟩ λu4 hF=>?_;clear g4 f4;obtain⟨g4,f4⟩:=hF;clear N3 M3 W3 Z3 YD PW k T2 t2 e4 m6 m7 m5 m8 g9 p6;refine EL.sp D c a λT=>?_;have F4:=qhp (show q38 Z (u4.tp T) from f4);have G4:=qhp g4;clear f4 g4 hl;go_wp2;go_loopw [8] (λiv wr=>∃i:Nat,iv=.int .i64 i/\i<=3/\(u4.tp T).gb wr none) (λiv _=>(3 - qiF iv).toNat)
 case atStart=>exact⟨0,rfl,by omega,qhD _ _⟩
 case round=>
  obtain⟨i,rfl,L,hG⟩:=hrel;have HG:=qhp hG;have c9:=F4.out.kept hG;by_cases p7:i<3
  ·have⟨a9,a8,l,d,c0,c1,hq,s2⟩:=c9 i p7;have v0:(i:Int)<3:=by omega
   have HQ:=qhp hq;clear hG c9 hq;go_upto_region 7 with(go_at_call 27;refine(ZU 0 _ _ d l wr ⟨_,rfl,HQ⟩ (qhv _) (by omega)).mono ?_;rintro e w5 ⟨ov,rfl,n,z⟩;have G5:=qhp n;have O5:=qhp z;obtain⟨ob,oc,rfl,-,-⟩:=z.cell;clear n z);go_upto_region 8 with(go_at_call 27;refine(ZU 0 _ _ d l wr ⟨_,rfl,HQ⟩ (qhv _) (by omega)).mono ?_;rintro e w5 ⟨ov,rfl,n,z⟩;have G5:=qhp n;have O5:=qhp z;obtain⟨ob,oc,rfl,-,-⟩:=z.cell;clear n z);obtain⟨O,hO⟩:∃O,O=w5.heap.size:=⟨_,rfl⟩;rw[<- hO];have H:=G5.out.t (qhq w5 (.cells #[.slice ob d.length oc,l] 24) none);refine vx (λu=>wr.gb u none/\u.heap[O]?=some (.cells #[.slice ob d.length oc,l] 24 (0,0))/\qr 0 u.heap.size u (.slice ob d.length oc) d)
    ⟨H,by rw[hO];exact qhA _ _,(O5.alloc _).mono (qiu _) (by rw[qhH];omega)⟩ (λu hF=>?_)
   obtain⟨gu,ou,pu⟩:=hF;have r:=qhp (show ∀w',u.gb w' none->u.gb w' none/\w'.cell? O=some (.slice ob d.length oc)/\w'.cell? ⟨O,1,none⟩=some (.int .i64 l)/\w'.cell? ⟨Z,i*2,none⟩=some (.slice a9 d.length a8)/\w'.cell? ⟨Z,i*2+1,none⟩=some (.int .i64 l) from λw' h=>⟨h,q8 (bk h ou) (o:=0) rfl,q8 (bk h ou) (o:=1) rfl,(gu.t h).cl c0,(gu.t h).cl c1⟩);have Q:=qhp λ(W:qhr) (h:u.gb W none)=>((pu.kept h).mono (qhv _) h.size:qr 0 W.heap.size W (.slice ob d.length oc) d);have P:=qhp λ(W:qhr) (h:u.gb W none)=>((HQ.kept (gu.t h)).mono (qhv _) (gu.t h).size:zi 0 W.heap.size W (.slice a9 d.length a8) d);have q5:=qhp (HG.t gu);have m4:=qhp (qhD u none);clear G5 O5 H hO HQ HG gu ou pu c0 c1;obtain⟨cv,k8⟩:∃cv,cv=Zx d l:=⟨_,rfl⟩;obtain⟨mo,h8⟩:∃mo,mo=Kb d l:=⟨_,rfl⟩;have U:=qhp λ(W:qhr) (h:u.gb W none)=>q9s _ d l W (Q W h);have S:=qhp λ(W:qhr) (h:u.gb W none)=>q6x _ d l W (P W h);have V:=qhp λ(W:qhr) (h:u.gb W none)=>qbl _ d l W (Q W h);have R:=qhp λ(W:qhr) (h:u.gb W none)=>q8z _ d l W (P W h);rw[<- k8] at U S;rw[<- h8] at V R;generalize zt d l=er at U S V R;clear k8 h8;obtain⟨-,d0,d1,d2,d3⟩:=r.out u m4;go_upto_region 9 with(go_at_call 59;refine(U _ m4).mono ?_;rintro e v1 ⟨rfl,B⟩;have G1:=qhp B;clear B);clear d0 d1 d2 d3;obtain⟨-,d0,d1,d2,d3⟩:=r.out v1 G1;go_upto_region 10 with(go_at_call 60;refine(S _ G1).mono ?_;rintro e v2 ⟨rfl,B⟩;have G2:=qhp (G1.t B);clear B);clear d0 d1 d2 d3;obtain⟨-,d0,d1,d2,d3⟩:=r.out v2 G2;go_upto_region 11 with(go_at_call 44;refine(V _ G2).mono ?_;rintro e v3 ⟨mv,rfl,B,L⟩;have G3:=qhp (G2.t B);have I3:=qhp L;obtain⟨kb,kc,rfl,-,-⟩:=L.cell;clear B L);clear d0 d1 d2 d3;obtain⟨-,d0,d1,d2,d3⟩:=r.out v3 G3;go_upto_region 12 with(go_at_call 61;refine(R _ G3).mono ?_;rintro e v4 ⟨mw,rfl,B,L⟩;have C:=qhp (G3.t B);have I4:=qhp L;have l9:=qhp ((I3.kept B).mono (qhv _) B.size);obtain⟨xb,xc,rfl,-,-⟩:=L.cell;clear B L);clear d0 d1 d2 d3 U S V R I3;have k:=qhp (qe v4 none);refine qz 27 (λw'=>u.gb w' none/\w'.cell? O=some (.slice ob d.length oc)/\w'.cell? ⟨O,1,none⟩=some (.int .i64 l)/\w'.cell? ⟨Z,i*2,none⟩=some (.slice a9 d.length a8)/\w'.cell? ⟨Z,i*2+1,none⟩=some (.int .i64 l)) (by kernel_rfl) (by kernel_rfl) (r _ (C.t k)) (λhHeld=>?_);simp only[qhE,qi1,qib,qiA,qi6,qie,qif,qio,qii,qi7];refine tk 0 (h:=tk 1 (h:=tk 2 (h:=tk 3 (h:=tk 4 (h:=tk 5 (h:=tk 6 (h:=tk 7 (h:=tk 8 (h:=tk 9 (h:=tk 10 (h:=tk 11 (h:=tk 12 (h:=tk 13 (h:=tk 14 (h:=tk 15 (h:=?_))))))))))))))));try go_frame
   refine rdc 16 λK hK=>?_;go_simp;go_at_call 31;refine(yj 0 _ 0 _ _ _ mo mo _ (l9.kept k) (I4.kept k)).mono ?_;rintro e v5 ⟨rfl,n⟩;rw[decide_eq_true rfl];replace k:=qhp (k.t n);clear n;refine hK.out _ _ (r _ (C.t k)) (λhHeld=>?_);refine tk 17 (h:=tk 18 (h:=tk 19 (h:=tk 20 (h:=tk 21 (h:=tk 22 (h:=tk 23 (h:=tk 24 (h:=?_))))))));try go_frame
   refine rdc 25 λK hK=>?_;go_simp;go_at_call 32;refine(q0c 0 _ 0 _ _ _ d d l l _ ⟨_,rfl,(Q _ (C.t k)).g⟩ ⟨_,rfl,P _ (C.t k)⟩).mono ?_;rintro e v6 ⟨rfl,k5⟩;rw[decide_eq_true ⟨rfl,rfl⟩];replace k:=qhp (k.t k5);clear k5;refine hK.out _ _ (r _ (C.t k)) (λhHeld=>?_);refine tk 26 (h:=?_);try go_frame
   refine⟨by kernel_rfl,?_⟩;simp only[qig,qit];clear hHeld;have GZ:=qhp (q5.t (C.t k));clear k r Q P l9 I4;go_wp2;go_roundw
   case rel=>exact⟨i+1,by simp,by omega,GZ⟩
   case measure=>simp[qiF];omega
  ·obtain rfl:i=3:=by omega
   clear hG c9;go_wp2;refine kR (λq=>(wq.tp q.tape).gb q none) (gb G4 (tpg HG)) λu6 g6=>?_;refine EL.seq D c a ?_;refine EL.region D c a ?_;simp only[qim,qhE,qi1,qib,qi6,qil,qj2];refine EL.enter D c a (fk:=23) (args:=#[]) rfl rfl (λT=>by rw[qne (f:=23) rfl Tp.x23 (by kernel_rfl) rfl];walk_nrm) (zd 23 (by decide)) ?_;refine qh2 D g7 h9 k0 ⟨_,Tp.x11,qp4⟩ ?_ _ [ql 11] c a λv u hR=>?_
   ·obtain⟨cs,e,g,h0,c8⟩:=h0;exact⟨cs,e,g,blk (w:=wq.tp u6.tape) g6 (by simp) h0,c8⟩
   obtain⟨rfl,p8⟩:=hR;rw[qkj];walk_nrm;refine EL.list D c a [1] [_] (rest:=[]) rfl λT4=>?_;go_wp2;refine EL.tape (wq:=u) ?_ T4;refine EL.region_end D c a ?_;refine EL.retS D c a ?_;exact EL.last a6 rfl rfl qp4 rfl rfl F
end
end
section
open Go Go.RowKit Go.Co Go.Sim Go.Conc Go.ConcN Go.ChangeShapes Go.WideShapes
def Tryz.own:ownKnob Tryz.prog.godebug=none:=by kernel_rfl
def Tryz.laidOut:laidOutB qi2=true:=by kernel_rfl
def q7t:Tryz.prog.globals.size=0:=by kernel_rfl
def qaq:(begin qi2 (λ_ _=>0) default).world.heap[0]?=some (.cells ((qlE Tryz.prog.types.size).map λt=>.int .u64 (Int.ofNat t)) 0 (0,0)):=by kernel_rfl
def qer(w:qhr):Prop:=∃a e f,w.heap[0]?=some (.cells a e f)/\∀(i:Nat) v,a[i]?=some v->∃k m,v=.int k m
def qgw{w:qhr}(h:w.ShapedOpen qi2):qer w:=by
 have⟨o,e,d,c,b⟩:=h.2 0 (by rw[q7t];exact qhv _) (qhs.1 qaq).1;rw[qaq] at c;cases c;rw[q7t,if_neg (by decide)] at b;subst b;refine⟨_,_,_,d,λi v a=>?_⟩;rw[qo4] at a;cases hi:(qlE Tryz.prog.types.size)[i]? with
 | none=>rw[hi] at a;cases a
 | some x=>rw[hi] at a;cases a;exact⟨_,_,rfl⟩
def qgj:@Two (JS Ya qi2 ls λ_=>False) Ya qi2 :=
 @Two.mk (JS Ya qi2 ls λ_=>False) _ _ (qeD _) ⟨⟨JS Ya Ya ls λ_=>False⟩,up _,qeC _⟩ hrf qan
end
end Go.Proofs.YtidgnkmjgioapaaGreat
