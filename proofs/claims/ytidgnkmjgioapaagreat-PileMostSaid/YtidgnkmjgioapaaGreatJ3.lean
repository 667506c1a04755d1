/-
  Part 6 of the proof. gladstonelaw04.PileMost answers true for every list of numbers, and leaves its argument as it was. No conditions.
-/
import Derived.Test.YtidgnkmjgioapaaGreatJ2
import Derived.Test.YtidgnkmjgioapaaGreatRows
import Derived.Conc.LeavingOf
import Derived.Conc.HoldsTime
import Derived.ChangeSame
import Derived.ChangeVars
import Derived.JoinedOf
import Derived.RowKit
import Derived.RowKitTokens
import Derived.LaidHandle
import Derived.ProofKit
set_option maxRecDepth 100000
set_option maxHeartbeats 8000000
set_option linter.all false
open And renaming intro → q8D
open Array renaming getElem?_eq_getElem → q9w,getElem?_eq_some_iff → q45,replicate_succ → qao,replicate_zero → qat
open Bool renaming and_eq_true → q9b,false_eq_true → qa5,or_eq_true → qcy
open Classical renaming byContradiction → qbw,em → qd6
open Go renaming Addr → qb9,Calls → qaD,FuncId → qbe,Oper → qbz,Operand → qaH,Program → q8b,TypeId → q8u,Value → q58,World → q3g,heap_alloc_new → q7j,info_parts → qch
open Go.Conc renaming base → q9v
open Go.Frame renaming enter → qan,finish_at → qcr
open Go.IntWalk renaming i64_in → qa7
open Go.Lib renaming hid → q1D
open Go.Proofs.Tryz renaming prog → q8v
open Go.Region renaming wanted → qb0
open Go.RowKit renaming intOf → qb2
open Go.Value renaming int → q9q,oneCell' → qbD,ownBlock → qak,slice → qbp
open Go.World renaming cell? → qal,grownBy_alloc → q34,news_of_block → qbg,ownsRow_nil → qcb,size_alloc → q8f
open Go.World.grownBy renaming andThen → qc0,refl → q8j
open List renaming all_eq_true → qau,append_assoc → qc1,cons_append → q9y,drop_eq_getElem_cons → qcq,drop_succ_cons → qbh,drop_zero → qbH,flatMap_cons → qcv,getElem?_eq_getElem → q7C,getElem?_eq_some_iff → q8w,length_append → qb3,length_cons → q8l,length_filter_le → qcd,length_map → qcl,length_nil → q9k,length_take → qcD,map_append → qc5,mem_cons → qbx,mem_of_getElem? → q8z,nil_append → qae,push_toArray → qbd,range → qa4,size_toArray → qa0,take_add_one → qbc,take_length → qcc
open List.range renaming loop → qb6
open Nat renaming le_refl → q5m,le_trans → q87,lt_of_lt_of_le → q8m,reduceAdd → q9F,reduceSub → qbA,zero_add → q9m,zero_le → qa8
open Option renaming getD_some → q88
section
namespace Go.Proofs.YtidgnkmjgioapaaGreat
theorem JG{x y:Int}:QZ x y<0↔x<y:=by unfold QZ;split<;>(try split)<;>omega
theorem Zt{x y:Int}:QZ x y=0↔x=y:=by unfold QZ;split<;>(try split)<;>omega
theorem QY:∀{a b c:List Int},zv a b<0->zv b c<0->zv a c<0
 | [],b,[],h1,h2=>by cases b<;>simp[zv] at h1 h2
 | [],_,_::_,_,_=>by simp[zv]
 | _::_,[],_,h1,_=>by simp[zv] at h1
 | _::_,_::_,[],_,h2=>by simp[zv] at h2
 | x::a,y::b,z::c,h1,h2=>by
  simp only[zv] at h1 h2 ⊢;by_cases e1:QZ x y=0
  ·rw[if_neg (by simpa using e1)] at h1
   have e:=Zt.1 e1;subst e;by_cases e2:QZ x z=0
   ·rw[if_neg (by simpa using e2)] at h2 ⊢
    exact QY h1 h2
   ·rw[if_pos e2] at h2 ⊢
    exact h2
  ·rw[if_pos e1] at h1
   have l1:=JG.1 h1;by_cases e2:QZ y z=0
   ·have e:=Zt.1 e2
    subst e;rw[if_pos e1];exact h1
   ·rw[if_pos e2] at h2
    have l2:=JG.1 h2;have h3:QZ x z<0:=JG.2 (by omega);rw[if_pos (by omega)];exact h3
theorem q0m:∀a:List Int,zv a a=0
 | []=>rfl
 | x::a=>by simp[zv,Zt.2 rfl,q0m a]
def kD(ps:List Par)(lim:Int)(b x:List Int):List Int:=if jN ps lim x && jt x b then x else b
theorem q6j{ps:List Par}{lim:Int}{b:List Int}:∀{L:List (List Int)},(∀x∈L,jt x b=false)->L.foldl (kD ps lim) b=b
 | [],_=>rfl
 | x::L,h=>by
  rw[List.foldl_cons,show kD ps lim b x=b by unfold kD;rw[h x (by simp)];simp];exact q6j λy hy=>h y (by simp[hy])
theorem q3l(ps:List Par)(lim:Int)(m:Nat):∀(L:List (List Int)) (b:List Int),L.Pairwise (λa c=>zv a c<0)->(∀x∈L,x.length=m) ->
  L.foldl (kD ps lim) b=match L.find? (jN ps lim) with | some p=>if jt p b then p else b | none=>b
 | [],b,_,_=>rfl
 | a::L,b,hp,hl=>by
  obtain⟨h1,h2⟩:=List.pairwise_cons.1 hp;rw[List.foldl_cons,List.find?_cons];cases hf:jN ps lim a with
  | false =>
   rw[show kD ps lim b a=b by unfold kD;rw[hf];rfl];exact q3l ps lim m L b h2 λx hx=>hl x (by simp[hx])
  | true =>
   have e:kD ps lim b a=if jt a b then a else b:=by unfold kD;rw[hf];simp
   simp only[e];refine q6j λx hx=>?_;have la:=hl a (by simp);have lx:=hl x (by simp[hx]);have Z:=h1 x hx;cases hab:jt a b with
   | true =>
    simp only[if_true];unfold jt;have:¬ zv x a<0:=λh=>by have:=QY Z h;rw[q0m] at this;omega
    simp[la,lx,this]
   | false =>
    simp only[qa5,if_false];unfold jt at hab ⊢;simp[la,lx] at hab ⊢;refine⟨hab.1,λhe=>?_⟩;have h3:=hab.2 he;refine Int.not_lt.1 λh=>?_;have:=QY Z h;omega
def pwB:List (List Int)->Bool
 | []=>true
 | a::L=>L.all (λb=>decide (zv a b<0)) && pwB L
theorem q5H:∀{L:List (List Int)},pwB L=true->L.Pairwise (λa c=>zv a c<0)
 | [],_=>.nil
 | a::L,h=>by
  simp only[pwB,q9b,qau,decide_eq_true_eq] at h;exact .cons h.1 (q5H h.2)
def yI(n:Nat):Nat->Nat->List (List Int)
 | 0,_=>[[]]
 | k+1,f=>(List.range' f (n - k - f)).flatMap λ(i:Nat)=>(yI n k (i+1)).map λl=>(i:Int)::l
def ze(l s:List Int):List Int:=s.map λj=>l[j.toNat]?.getD 0
def Zu(l:List Int):List (List Int):=(qa4 (l.length+1)).flatMap λk=>(yI l.length k 0).map (ze l)
def allOk(n:Nat):Bool:=(zN (qQ n) 0).all λc=>(yX c.length).map (ze c) == yh c && pwB (yh c) && (yh c).all (λx=>x.isPerm c) && c.all (λx=>decide (0<=x/\x<n)) && decide (c.Nodup) && decide (c.length<=n)
theorem q5E:∀n,n<=4->Zu (qQ n)=zN (qQ n) 0
 | 0,_=>by kernel_rfl
 | 1,_=>by kernel_rfl
 | 2,_=>by kernel_rfl
 | 3,_=>by kernel_rfl
 | 4,_=>by kernel_rfl
 | n+5,h=>by omega
theorem qaF:∀n,n<=4->allOk n=true
 | 0,_=>by kernel_rfl
 | 1,_=>by kernel_rfl
 | 2,_=>by kernel_rfl
 | 3,_=>by kernel_rfl
 | 4,_=>by kernel_rfl
 | n+5,h=>by omega
def ZL(c:List Int):List (List Int):=(yX c.length).map (ze c)
structure q42(n:Nat)(c:List Int):Prop where
 eq:ZL c=yh c
 pw:(yh c).Pairwise (λa c=>zv a c<0)
 pm:∀x∈yh c,x.Perm c
 mem:∀x∈c,0<=x/\x<n
 nd:c.Nodup
 len:c.length<=n
theorem q4z{n:Nat}(hn:n<=4){c:List Int}(hc:c∈zN (qQ n) 0):q42 n c:=by
 have h:=qau.1 (qaF n hn) c hc;simp only[q9b,beq_iff_eq,decide_eq_true_eq,qau] at h;obtain⟨⟨⟨⟨⟨h1,h2⟩,h3⟩,h4⟩,h5⟩,h6⟩:=h;exact⟨h1,q5H h2,λx hx=>List.isPerm_iff.1 (h3 x hx),h4,h5,h6⟩
def Qy(ps:List Par)(lim:Int)(L:List (List Int))(b:List Int):List Int:=L.foldl (λb c=>(ZL c).foldl (kD ps lim) b) b
theorem q0r(ps:List Par)(lim:Int)(n:Nat):∀(L:List (List Int)) (b:List Int),(∀c∈L,q42 n c)->L.foldl (vm ps lim) (true,b)=(true,Qy ps lim L b)
 | [],_,_=>rfl
 | c::L,b,h=>by
  have hc:=h c (by simp);have e:vm ps lim (true,b) c=(true,(ZL c).foldl (kD ps lim) b):=by
   rw[hc.eq,q3l ps lim c.length (yh c) b hc.pw λx hx=>(hc.pm x hx).length_eq];unfold vm;cases(yh c).find? (jN ps lim) with
   | none=>rfl
   | some p=>cases hlm:jt p b<;>simp[hlm]
  unfold Qy;rw[List.foldl_cons,List.foldl_cons,e];exact q0r ps lim n L _ λx hx=>h x (by simp[hx])
theorem most_is(ps:List Par)(lim:Int)(hl:1<=lim)(h4:ps.length<=4):(jr ps lim (zN (qQ ps.length) 0)).2=Qy ps lim (Zu (qQ ps.length)) []:=by
 rw[q5E _ h4];have h:∃T,zN (qQ ps.length) 0=[]::T:=by
  revert h4;generalize ps.length=n;intro h4
  match n,h4 with
  | 0,_=>exact⟨(zN (qQ 0) 0).tail,by kernel_rfl⟩
  | 1,_=>exact⟨(zN (qQ 1) 0).tail,by kernel_rfl⟩
  | 2,_=>exact⟨(zN (qQ 2) 0).tail,by kernel_rfl⟩
  | 3,_=>exact⟨(zN (qQ 3) 0).tail,by kernel_rfl⟩
  | 4,_=>exact⟨(zN (qQ 4) 0).tail,by kernel_rfl⟩
 have hs:∀c∈zN (qQ ps.length) 0,q42 ps.length c:=λc hc=>q4z h4 hc;obtain⟨T,hT⟩:=h;rw[hT] at hs ⊢;have h0:yh []=[[]]:=rfl;have hf:jN ps lim []=true:=by
  unfold jN zj;simp only[List.map_nil,List.foldl_nil,q9b,decide_eq_true_eq];exact⟨by omega,by rfl⟩
 have e1:vm ps lim (false,[]) []=(true,[]):=by
  unfold vm;rw[h0,List.find?_cons,hf];simp
 have e2:(ZL []).foldl (kD ps lim) []=[]:=by
  rw[(hs [] (by simp)).eq,h0];show kD ps lim [] []=[]
  unfold kD;split<;>rfl
 unfold jr Qy;rw[List.foldl_cons,List.foldl_cons,e1,e2,q0r ps lim ps.length T [] λc hc=>hs c (by simp[hc])];rfl
end Go.Proofs.YtidgnkmjgioapaaGreat
end
section
namespace Go.Proofs.YtidgnkmjgioapaaGreat
open Go.RowKit
def ZZ(n k f c:Nat):List (List Int):=(List.range' f c).flatMap λ(i:Nat)=>ko i (yI n k (i+1))
theorem q4g(n k f c:Nat):ZZ n k f (c+1)=ZZ n k f c++ko (f+c) (yI n k (f+c+1)):=by simp[ZZ,List.range'_1_concat]
theorem YG{α β:Type}(g:α->List β)(m:Nat)(h:∀a,(g a).length<=m):∀L:List α,(L.flatMap g).length<=L.length*m
 | []=>by simp
 | a::L=>by
  have h1:=YG g m h L;have h2:=h a;rw[qcv,qb3,q8l,Nat.add_mul,Nat.one_mul];omega
theorem vj(n:Nat):∀k f,(yI n k f).length<=n ^ k
 | 0,_=>by simp[yI]
 | k+1,f=>by
  have h:=YG (λ(i:Nat)=>(yI n k (i+1)).map λl=>(i:Int)::l) (n ^ k) (λi=>by rw[qcl];exact vj n k (i+1)) (List.range' f (n - k - f));rw[List.length_range'] at h;rw[Nat.pow_succ,Nat.mul_comm];exact q87 h (Nat.mul_le_mul_right _ (by omega))
theorem QH(n:Nat):∀k f,∀l∈yI n k f,l.length=k/\∀x∈l,0<=x/\x<n
 | 0,_,l,h=>by simp[yI] at h;simp[h]
 | k+1,f,l,h=>by
  obtain⟨i,hi,h2⟩:=List.mem_flatMap.1 h;obtain⟨m,hm,rfl⟩:=List.mem_map.1 h2;obtain⟨h3,h4⟩:=QH n k (i+1) m hm;have Z:=List.mem_range'_1.1 hi;refine⟨by simp[h3],λx hx=>?_⟩;rcases qbx.1 hx with rfl | hx
  ·omega
  ·exact h4 x hx
theorem qI.lt{base:Nat}{w:q3g}{v:q58}{L:List (List Int)}(h:qI base w v L)(j:Nat)(e:v.ownBlock=some j):j<w.heap.size:=by
 obtain⟨vs,h1,h2⟩:=h;rcases h1.2 with⟨rfl,-⟩ | ⟨g,cap,cur,rfl,-,hg,-⟩
 ·cases e
 ·simp[qak] at e
  subst e;exact(q45.1 hg).1
theorem qI.ge{base:Nat}{w:q3g}{v:q58}{L:List (List Int)}(h:qI base w v L)(j:Nat)(e:v.ownBlock=some j):base<=j:=by
 obtain⟨vs,h1,h2⟩:=h;rcases h1.2 with⟨rfl,-⟩ | ⟨g,cap,cur,rfl,hb,hg,-⟩
 ·cases e
 ·simp[qak] at e
  subst e;exact hb
theorem qI.beside{base b2 n:Nat}{w w':q3g}{v u:q58}{vs:List q58}{L:List (List Int)}(h:qI base w v L)(ho:w.ownsRow b2 29 1 u n vs)(hg:w.grownBy w' u.ownBlock)(hne:∀j,u.ownBlock=some j->v.ownBlock≠some j):qI base w' v L:=by
 obtain⟨xs,h1,h2⟩:=h;refine⟨xs,⟨h1.1,h1.2.imp id λ⟨g,cap,cur,e,hb,hh,hr⟩=>⟨g,cap,cur,e,hb,blk hg (λe2=>hne g e2.symm (by rw[e];rfl)) hh,hr⟩⟩,λj x l hx hl=>((h2 j x l hx hl).kept_own ho (by decide) hg).mono (q5m _) hg.size⟩
theorem YF{u u' v:q58}{w:q3g}(Z:u'.ownBlock=u.ownBlock\/u'.ownBlock=some w.heap.size)(hne:∀j,u.ownBlock=some j->v.ownBlock≠some j)(hlt:∀j,v.ownBlock=some j->j<w.heap.size):∀j,u'.ownBlock=some j->v.ownBlock≠some j:=λj e e2=>by
 rcases Z with h | h
 ·exact hne j (h.symm.trans e) e2
 ·have:=hlt j e2
  rw[e] at h;cases h;omega
theorem q60{n k:Nat}(hn:n<=5)(hk:k<=5):n ^ k<=3125:=by
 by_cases h:n=0
 ·subst h
  cases k with
  | zero=>decide
  | succ k=>simp
 ·exact q87 (Nat.pow_le_pow_left hn k) (q87 (Nat.pow_le_pow_right (by decide) hk) (by decide))
theorem ZY(n:Nat)(hn:n<=5):∀k:Nat,k<=5->∀f:Nat,f<=100->∀w,qaD Tryp.prog 146 #[.int .i64 f,.int .i64 n,.int .i64 k] w λe w'=>∃v,e=.returned v/\w.grownBy w' none/\qI w.heap.size w' v (yI n k f)
 | 0,_,f,_,w=>by
  go_enter Tryp.func146,Tryz.ntmps146;go_wp2;go_ret;exact⟨_,rfl,q34 _ _ none,qI.one w⟩
 | k+1,hk,f,hf,w=>by
  obtain⟨i0,h9,g8,g7,g6⟩:=qch Tryp.info3p;obtain⟨j0,e6,e5,e4,d9⟩:=qch Tryp.info29L;have k8:=q1D (ZY n hn k (by omega));have m4:((k:Int)+1 == 0)=false:=by rw[beq_eq_false_iff_ne];omega
  have l7:IntKind.i64.wrap (k:Int)=(k:Int):=qa7 _ (by omega);have k7:=q1D (show yI n (k+1) f=ZZ n k f (n - k - f) from rfl);rw[show((k+1:Nat):Int)=(k:Int)+1 by omega];go_enter Tryp.func146,Tryz.ntmps146;go_wp2;obtain⟨A,hA⟩:∃A,A=w.heap.size:=⟨_,rfl⟩
  have HA:=q1D hA;clear hA;go_loopw [7,8] (λov iv wr=>∃c i:Nat,i=f+c/\iv=.int .i64 i/\c<=n - k - f/\w.grownBy wr none/\qI A wr ov (ZZ n k f c)) (λ_ iv _=>(1000 - qb2 iv).toNat)
  case atStart=>exact⟨0,f,rfl,rfl,by omega,q8j _ _,by simpa[ZZ] using qI.nil _ _⟩
  case round =>
   obtain⟨c,i,hi,rfl,hc,hG,hO⟩:=hrel;have k9:=q1D hi;have m5:i<=105:=by omega
   have g5:=q1D hG;have HO:=q1D hO;have l8:IntKind.i64.wrap ((i:Int)+((k:Int)+1))=(i:Int)+((k:Int)+1):=qa7 _ (by omega);have l4:IntKind.i64.wrap ((i:Int)+1)=(i:Int)+1:=qa7 _ (by omega);by_cases hlt:c<n - k - f
   ·have h8:(i:Int)+((k:Int)+1)<=(n:Int):=by omega
    obtain⟨L,hL⟩:∃L,L=yI n k (i+1):=⟨_,rfl⟩
    have m8:L.length<=3125:=by rw[hL];exact q87 (vj n k _) (q60 hn (by omega))
    have HE:=q1D (show ∀l∈L,l.length<=5 by rw[hL];exact λl h=>by rw[(QH n k _ l h).1];omega);obtain⟨P,hP⟩:∃P,P=ZZ n k f c:=⟨_,rfl⟩
    have k0:=q1D (show ZZ n k f (c+1)=P++ko i L by rw[q4g,hP,hL,hi]);have m6:P.length<=15625:=by
     rw[hP];have h:=YG (λ(i:Nat)=>ko i (yI n k (i+1))) 3125 (λi=>by rw[ko,qcl];exact q87 (vj n k _) (q60 hn (by omega))) (List.range' f c);rw[List.length_range'] at h;exact q87 h (Nat.mul_le_mul_right _ (show c<=5 by omega))
    rw[<- hP] at HO;have HC:=q1D (show qaD Tryp.prog 146 #[.int .i64 ((i:Int)+1),.int .i64 n,.int .i64 k] wr _ from k8.out (i+1) (by omega) wr);rw[<- hL] at HC;clear hG hO hP hL hi;go_upto_region 8 with(first
     | (go_at_call 146;refine HC.out.mono ?_;rintro e w1 ⟨v,rfl,hg,hr⟩;obtain⟨la,lc,rfl,-⟩:=hr.at;have e9:=q1D hg;have HR:=q1D hr;clear hg hr))
    go_wp2;go_loopw [7,10] (λov xv wj=>∃x:Nat,xv=.int .i64 x/\x<=L.length/\w.grownBy wj none/\qI A wj ov (P++ko i (L.take x))/\qI wr.heap.size wj (.slice la L.length lc) L/\∀j,ov.ownBlock=some j->(qbp la L.length lc).ownBlock≠some j) (λ_ xv _=>(L.length - qb2 xv).toNat)
    case atStart=>exact⟨0,rfl,by omega,g5.out.trans e9.out,by simpa[ko] using HO.out.kept e9.out,HR.out,λj e e2=>by
     have h1:=HO.out.lt j e;have h2:=HR.out.ge j e2;omega⟩
    case round =>
     obtain⟨x,rfl,hx,hG,hN,e7,e8⟩:=hrel;have b8:=q1D e7;have b9:=q1D e8;clear e7 e8;have d7:=q1D hG;obtain⟨vs,a9,b7⟩:=hN;obtain⟨na,nc,rfl,-⟩:=jo a9;by_cases hxl:x<L.length
     ·obtain⟨l,hl⟩:∃l,L[x]?=some l:=⟨_,q7C hxl⟩
      obtain⟨_,_,er,hr⟩:=b8.out.at;injection er with er1 _ er3;subst er1 er3;obtain⟨g,rfl,c3⟩:=hr (by omega);obtain⟨y,hy,hyi⟩:=c3 x l hl;obtain⟨yb,yc,rfl,-,-⟩:=hyi.cell;have m3:l.length<=5:=HE.out l (q8z hl);have l6:(x:Int)<(L.length:Int):=by omega
      have HS:=q1D (KR i L x l hl);obtain⟨M,hM⟩:∃M,M=P++ko i (L.take x):=⟨_,rfl⟩
      have m7:M.length<=20000:=by rw[hM,qb3,ko,qcl,qcD];omega
      rw[<- hM] at a9 b7 b9 ⊢;have HS:=q1D (show P++ko i (L.take (x+1))=M++[(i:Int)::l] by rw[HS.out,<- qc1,<- hM]);have HI:=q1D b7;have a7:=q1D a9;have HY:=q1D hyi;have m9:A<=wr.heap.size:=by have:=HA.out;have:=hG.size;omega
      have l5:=(q34 wr (.cells #[.int .i64 i] 3) none).cell hy (by simp);have H1:=q1D (q63 wr i);have k6:=q1D (qe.kept hyi (q34 wr (.cells #[.int .i64 i] 3) none) (by simp));have g9:(wr.alloc (.cells #[.int .i64 i] 3)).heap.size=wr.heap.size+1:=q8f _ _;clear hG b7 a9 c3 hr hyi hM hl;rcases yb with _ | ad
      ·obtain rfl:l=[]:=qbw λh=>by obtain⟨_,_,e,_,hc⟩:=HY.out;obtain⟨_,_,_,_,e1,_⟩:=hc h;cases e;cases e1
       have c8:=q7j (wr.alloc (.cells #[.int .i64 i] 3)) (.cells #[.slice (some ⟨wr.heap.size,0,none⟩) 1 1] 29);rw[g9] at c8;have k5:=q1D c8;clear c8;go_wp2_with (first
        | (at_builtin;(refine wpList_append_own_at _ rfl _ _ 36 rfl A 29 j0 _ 1 24 Tryp.und36L e6 e5 e4 d9 rfl (by decide) (.slice na M.length nc) M.length vs rfl ((a7.out.kept (q34 _ _ none) (qd6 _)).alloc _) ⟨wr.heap.size+1,0,none⟩ 1 1 [.slice (some ⟨wr.heap.size,0,none⟩) 1 1] rfl rfl (qbg (cs:=#[.slice (some ⟨wr.heap.size,0,none⟩) 1 1]) (t:=29) (fr:=(0,0)) k5.out) (by simp[qbD]) (by unfold maxLen;omega) (by omega) (by simp;omega) ?_);intro v5 w5 hown Z _ c9;have d8:=q1D c9;have HW:=q1D hown;have a8:=q1D Z;clear hown Z))
       have a6:=(q34 wr (.cells #[.int .i64 i] 3) none).trans (q34 _ (.cells #[.slice (some ⟨wr.heap.size,0,none⟩) 1 1] 29) none);have d6:=qI.push ((a7.out.kept (q34 wr (.cells #[.int .i64 i] 3) none) (qd6 _)).alloc (.cells #[.slice (some ⟨wr.heap.size,0,none⟩) 1 1] 29)) (λj x q hx hq=>((HI.out j x q hx hq).kept a6 (by simp)).mono (q5m _) a6.size) ((qe.own (l:=[(i:Int)]) (H1.out.alloc (.cells #[.slice (some ⟨wr.heap.size,0,none⟩) 1 1] 29)) (by simp)).mono (qa8 _) (q5m _)) HW.out a8.out;have d5:=qc0 (row:=none) (d7.out.trans a6) a8.out (λj e=>.inl (by have:=(a7.out.lt j e).1;have:=HA.out;omega));have b0:=(b8.out.kept a6).beside ((a7.out.kept (q34 wr (.cells #[.int .i64 i] 3) none) (qd6 _)).alloc (.cells #[.slice (some ⟨wr.heap.size,0,none⟩) 1 1] 29)) a8.out b9.out;have b6:=YF d8.out b9.out (λj e=>q8m (b8.out.lt j e) a6.size);go_roundw
       case rel=>exact⟨x+1,by simp,by omega,d5,by rw[HS.out];exact d6,b0,b6⟩
       case measure=>simp[qb2];omega
      ·go_wp2_with (first
        | (at_builtin;(refine wpList_append_own _ rfl _ _ 29 rfl wr.heap.size 3 i0 _ 1 8 Tryp.und29' h9 g8 g7 g6 rfl (by decide) (.slice (some ⟨wr.heap.size,0,none⟩) 1 1) 1 [.int .i64 i] rfl H1.out ad l.length yc (l.map (q9q .i64)) rfl (by simp) k6.out.news (by intro u hu;simp at hu;obtain⟨x,_,rfl⟩:=hu;rfl) (by unfold maxLen;omega) (by omega) (by simp) ?_);intro v4 w4 hown Z _;obtain⟨g4,c4,rfl⟩:∃g4 c4,v4=.slice (some ⟨g4,0,none⟩) (1+l.length) c4:=(by rw[Nat.add_comm] at hown;obtain⟨g,c,e⟩:=ownsRow_succ hown;exact⟨g,c,by rw[e,Nat.add_comm]⟩);have XO:=q1D (qe.own (l:=(i:Int)::l) hown (by simp;omega));have G4:=q1D (qc0 (row:=none) (q34 wr (.cells #[.int .i64 i] 3) none) Z (λj e=>.inl (H1.out.lt j e).1));have l9:=G4.out.size;clear hown Z)
        | (at_builtin;(refine wpList_append_own_at _ rfl _ _ 36 rfl A 29 j0 _ 1 24 Tryp.und36L e6 e5 e4 d9 rfl (by decide) (.slice na M.length nc) M.length vs rfl ((a7.out.kept G4.out (qd6 _)).alloc _) ⟨w4.heap.size,0,none⟩ 1 1 [.slice (some ⟨g4,0,none⟩) (1+l.length) c4] rfl rfl (qbg (cs:=#[.slice (some ⟨g4,0,none⟩) (1+l.length) c4]) (t:=29) (fr:=(0,0)) (q7j w4 _)) (by simp[qbD]) (by unfold maxLen;omega) (by omega) (by simp;omega) ?_);intro v5 w5 hown Z _ c9;have d8:=q1D c9;have HW:=q1D hown;have a8:=q1D Z;clear hown Z))
       have a6:=G4.out.trans (q34 w4 (.cells #[.slice (some ⟨g4,0,none⟩) (1+l.length) c4] 29) none);have d6:=qI.push ((a7.out.kept G4.out (qd6 _)).alloc (.cells #[.slice (some ⟨g4,0,none⟩) (1+l.length) c4] 29)) (λj x q hx hq=>((HI.out j x q hx hq).kept a6 (by simp)).mono (q5m _) a6.size) ((XO.out.alloc (.cells #[.slice (some ⟨g4,0,none⟩) (1+l.length) c4] 29)).mono (qa8 _) (by simp)) HW.out a8.out;have d5:=qc0 (row:=none) (d7.out.trans a6) a8.out (λj e=>.inl (by have:=(a7.out.lt j e).1;have:=HA.out;omega));have b0:=(b8.out.kept a6).beside ((a7.out.kept G4.out (qd6 _)).alloc (.cells #[.slice (some ⟨g4,0,none⟩) (1+l.length) c4] 29)) a8.out b9.out;have b6:=YF d8.out b9.out (λj e=>q8m (b8.out.lt j e) a6.size);go_roundw
       case rel=>exact⟨x+1,by simp,by omega,d5,by rw[HS.out];exact d6,b0,b6⟩
       case measure=>simp[qb2];omega
     ·obtain rfl:x=L.length:=by omega
      have HN:=q1D (show qI A wr (.slice na _ nc) (P++ko i (L.take L.length)) from⟨vs,a9,b7⟩);clear hG b7 a9;go_wp2;go_roundw
      case rel=>exact⟨c+1,i+1,by have:=k9.out;omega,by simp,by omega,d7.out,by rw[k0.out];simpa using HN.out⟩
      case measure=>simp[qb2];omega
   ·obtain rfl:c=n - k - f:=by omega
    have h8:¬ (i:Int)+((k:Int)+1)<=(n:Int):=by omega
    clear hG hO;go_wp2;go_ret;exact⟨_,rfl,g5.out,by rw[k7.out];exact HO.out.low (Nat.le_of_eq HA.out.symm)⟩
theorem q0B(n k:Nat)(hn:n<=5)(hk:k<=5)(w:q3g):qaD Tryp.prog 97 #[.int .i64 n,.int .i64 k] w λe w'=>∃v,e=.returned v/\w.grownBy w' none/\qI w.heap.size w' v (yI n k 0):=by
 have HC:=q1D (show qaD Tryp.prog 146 #[.int .i64 0,.int .i64 n,.int .i64 k] w _ from ZY n hn k hk 0 (by omega) w);go_enter Tryp.func97,Tryz.ntmps97;go_wp2_with (first | (go_at_call 146;refine HC.out.mono ?_;rintro e w1 ⟨v,rfl,hg,hr⟩));go_ret;exact⟨_,rfl,hg,hr⟩
theorem KT(l s:List Int)(m:Nat)(j:Int)(h:s[m]?=some j):ze l (s.take (m+1))=ze l (s.take m)++[l[j.toNat]?.getD 0]:=by
 rw[qbc,h];simp[ze]
def xj(l:List Int)(k:Nat):List (List Int):=(qa4 k).flatMap λk=>(yI l.length k 0).map (ze l)
theorem Jk(l:List Int)(k:Nat):xj l (k+1)=xj l k++(yI l.length k 0).map (ze l):=by simp[xj,List.range_succ]
theorem YS{l:List Int}(h5:l.length<=5){k:Nat}(hk:k<=6):(xj l k).length<=k*3125:=by
 induction k with
 | zero=>simp[xj]
 | succ k ih =>
  rw[Jk,qb3,qcl];have h1:=ih (by omega);have h2:=q87 (vj l.length k 0) (q60 h5 (show k<=5 by omega));omega
theorem q5i(lo hi:Nat)(lv:q58)(l:List Int)(w:q3g)(hI:qe lo hi w lv l)(hhi:hi<=w.heap.size)(h5:l.length<=5) :
  qaD Tryp.prog 42 #[lv] w λe w'=>∃v,e=.returned v/\w.grownBy w' none/\qI w.heap.size w' v (Zu l):=by
 obtain⟨i0,m4,l4,k9,k8⟩:=qch Tryp.info3p;obtain⟨j0,l9,l7,l6,l5⟩:=qch Tryp.info29L;obtain⟨lb,lc,rfl,p5,-⟩:=hI.cell;have n4:=q1D hI;obtain⟨A,hA⟩:∃A,A=w.heap.size:=⟨_,rfl⟩
 have HA:=q1D hA;clear hA hI;go_enter Tryp.func42,Tryz.ntmps42;go_wp2;go_loopw [3,4] (λov kv wr=>∃k:Nat,kv=.int .i64 k/\k<=l.length+1/\w.grownBy wr none/\qI A wr ov (xj l k)) (λ_ kv _=>(l.length+1 - qb2 kv).toNat)
 case atStart=>exact⟨0,rfl,by omega,q8j _ _,qI.nil _ _⟩
 case round =>
  obtain⟨k,rfl,hk,hG,hO⟩:=hrel;have k7:=q1D hG;have HO:=q1D hO;by_cases hlt:k<=l.length
  ·have l8:(k:Int)<=(l.length:Int):=by omega
   obtain⟨L,hL⟩:∃L,L=yI l.length k 0:=⟨_,rfl⟩
   have q0:L.length<=3125:=by rw[hL];exact q87 (vj _ k _) (q60 h5 (by omega))
   have HE:=q1D (show ∀s∈L,s.length=k/\∀x∈s,0<=x/\x<l.length by rw[hL];exact λs h=>QH _ k _ s h);obtain⟨P,hP⟩:∃P,P=xj l k:=⟨_,rfl⟩
   have m9:=q1D (show xj l (k+1)=P++L.map (ze l) by rw[Jk,hP,hL]);have p8:P.length<=20000:=by rw[hP];have:=YS h5 (show k<=6 by omega);omega
   rw[<- hP] at HO;have HC:=q1D (q0B l.length k h5 (by omega) wr);rw[<- hL] at HC;obtain⟨Bs,d6⟩:∃Bs,Bs=wr.heap.size:=⟨_,rfl⟩
   rw[<- d6] at HC;have n6:=q1D d6;clear hG hO hP hL d6;go_upto_region 6 with(first
    | (go_at_call 97;refine HC.out.mono ?_;rintro e w1 ⟨v,rfl,hg,hr⟩;obtain⟨la,e6,rfl,-⟩:=hr.at;have k5:=q1D hg;have HR:=q1D hr;clear hg hr))
   go_wp2;go_loopw [3,6] (λov iv wj=>∃i:Nat,iv=.int .i64 i/\i<=L.length/\w.grownBy wj none/\qI A wj ov (P++(L.take i).map (ze l))/\qI Bs wj (.slice la L.length e6) L/\∀j,ov.ownBlock=some j->(qbp la L.length e6).ownBlock≠some j) (λ_ iv _=>(L.length - qb2 iv).toNat)
   case atStart=>exact⟨0,rfl,by omega,k7.out.trans k5.out,by simpa using HO.out.kept k5.out,HR.out,λj e e2=>by
    have h1:=HO.out.lt j e;have h2:=HR.out.ge j e2;have h3:=n6.out;omega⟩
   case round =>
    obtain⟨i,rfl,hi,hG,hN,g9,h9⟩:=hrel;obtain⟨U,rfl⟩:∃U,U=wr:=⟨_,rfl⟩
    have d8:=q1D g9;have e5:=q1D h9;have k6:=q1D hG;obtain⟨vs,a8,b0⟩:=hN;obtain⟨na,nc,rfl,-⟩:=jo a8;clear g9 h9;by_cases m3:i<L.length
    ·obtain⟨s,hs⟩:∃s,L[i]?=some s:=⟨_,q7C m3⟩
     obtain⟨c8,e7⟩:=HE.out s (q8z hs);have m8:=q1D e7;have b7:=q1D c8;have p7:(i:Int)<(L.length:Int):=by omega
     obtain⟨_,_,er,hr⟩:=d8.out.at;injection er with er1 _ er3;subst er1 er3;obtain⟨g,rfl,b9⟩:=hr (by omega);obtain⟨y,hy,hyi⟩:=b9 i s hs;obtain⟨sb,sc,rfl,-,-⟩:=hyi.cell;rw[c8] at hy;have d7:=q1D (show(L.take (i+1)).map (ze l)=(L.take i).map (ze l)++[ze l s] by rw[qbc,hs];simp);obtain⟨M,hM⟩:∃M,M=P++(L.take i).map (ze l):=⟨_,rfl⟩
     have p9:M.length<=30000:=by rw[hM,qb3,qcl,qcD];omega
     rw[<- hM] at a8 b0 e5 ⊢;have d7:=q1D (show P++(L.take (i+1)).map (ze l)=M++[ze l s] by rw[d7.out,<- qc1,<- hM]);have HI:=q1D b0;have e4:=q1D a8;have HY:=q1D hyi;have m6:=q1D hy;have n3:=q1D (n4.out.kept hG (by simp));have m5:A<=U.heap.size:=by have:=HA.out;have:=hG.size;omega
     obtain⟨S0,g7⟩:∃S0,S0=U.heap.size:=⟨_,rfl⟩
     have k0:=q1D g7;clear hG b0 a8 b9 hr hyi hM hs e7 hy c8 g7;go_wp2;go_loopw [7,8] (λxv mv wj=>∃m:Nat,mv=.int .i64 m/\m<=k/\U.grownBy wj none/\wj.ownsRow S0 3 1 xv m ((ze l (s.take m)).map (q9q .i64))) (λ_ mv _=>(k - qb2 mv).toNat)
     case atStart=>exact⟨0,rfl,by omega,q8j _ _,qcb _ _ _ _⟩
     case round =>
      obtain⟨m,rfl,hm,hG,hX⟩:=hrel;have b8:=q1D hG;have HX:=q1D hX;obtain⟨xa,xc,rfl,-⟩:=jo hX;have n8:S0<=wr.heap.size:=by have:=k0.out;have:=hG.size;omega
      have p3:=hG.cell m6.out (by simp);by_cases p4:m<k
      ·obtain⟨j,hj⟩:∃j,s[m]?=some j:=⟨_,q7C (by have:=b7.out;omega)⟩
       have c9:=m8.out j (q8z hj);have d9:=q1D (KT l s m j hj);obtain⟨jn,rfl⟩:∃jn:Nat,j=(jn:Int):=⟨j.toNat,by omega⟩
       have hmm:(m:Int)<(k:Int):=by omega
       obtain⟨_,_,es,_,e8⟩:=(HY.out.kept hG (by simp)).cell;injection es with es1 _ es3;subst es1 es3;obtain⟨SB,so,rfl,-,-,-,a6⟩:=e8 (by intro e;rw[e] at hj;simp at hj);have x1:=a6 m (by have:=b7.out;omega);rw[hj] at x1;simp only[q88] at x1;obtain⟨_,_,el,_,g5⟩:=(n3.out.kept hG (by simp)).cell;injection el with el1 _ el3;subst el1 el3;obtain⟨LB,n9,rfl,-,-,-,a7⟩:=g5 (by intro e;rw[e] at c9;simp at c9;omega);have x2:=a7 jn (by omega);rw[Int.toNat_natCast] at d9;generalize l[jn]?.getD 0=z at x2 d9;have p6:(jn:Int)<(l.length:Int):=by omega
       clear hG hX a6 a7 e8 g5 hj c9;go_wp2_with (first
        | (at_builtin;(refine wpList_append_own _ rfl _ _ 29 rfl S0 3 i0 _ 1 8 Tryp.und29' m4 l4 k9 k8 rfl (by decide) (.slice xa m xc) m _ rfl (HX.out.alloc _) ⟨wr.heap.size,0,none⟩ 1 1 [.int .i64 z] rfl rfl (qbg (cs:=#[.int .i64 z]) (t:=3) (fr:=(0,0)) (q7j wr _)) (by simp[qbD]) (by unfold maxLen;omega) (by omega) (by simp;omega) ?_);intro v5 w5 hown Z _;have HW:=q1D hown;have b6:=q1D Z;clear hown Z))
       have d5:=qc0 (row:=none) (b8.out.trans (q34 wr (.cells #[.int .i64 z] 3) none)) b6.out (λj e=>.inl (by have:=(HX.out.lt j e).1;have:=k0.out;omega));go_roundw
       case rel=>exact⟨m+1,by simp,by omega,d5,by rw[d9.out,qc5];exact HW.out⟩
       case measure=>simp[qb2];omega
      ·obtain rfl:m=k:=by omega
       have e9:(ze l s).length=m:=by have:=b7.out;simp[ze,this]
       have m7:=q1D (qe.own (l:=ze l s) (by
        have h:=hX;rw[List.take_of_length_le (by have:=b7.out;omega)] at h;exact h) (by omega))
       have q2:=q1D (show qbp xa m xc=.slice xa (ze l s).length xc by rw[e9]);have q1:A<=wr.heap.size:=q87 m5 hG.size;clear hG hX e9;go_wp2_with (first
        | (at_builtin;(refine wpList_append_own_at _ rfl _ _ 36 rfl A 29 j0 _ 1 24 Tryp.und36L l9 l7 l6 l5 rfl (by decide) (.slice na M.length nc) M.length vs rfl ((e4.out.kept b8.out (qd6 _)).alloc _) ⟨wr.heap.size,0,none⟩ 1 1 [.slice xa m xc] rfl rfl (qbg (cs:=#[.slice xa m xc]) (t:=29) (fr:=(0,0)) (q7j wr _)) (by simp[qbD]) (by unfold maxLen;omega) (by omega) (by simp;omega) ?_);intro v5 w5 hown Z _ g6;have n7:=q1D g6;have HW:=q1D hown;have b6:=q1D Z;clear hown Z g6))
       have a9:=b8.out.trans (q34 wr (.cells #[.slice xa m xc] 29) none);have c3:=(e4.out.kept b8.out (qd6 _)).alloc (.cells #[.slice xa m xc] 29);have n2:=qI.push c3 (λj x q hx hq=>((HI.out j x q hx hq).kept a9 (by simp)).mono (q5m _) a9.size) ((m7.out.alloc (.cells #[.slice xa m xc] 29)).mono (qa8 _) (by simp)) HW.out b6.out;have d5:=qc0 (row:=none) (k6.out.trans a9) b6.out (λj e=>.inl (by have:=(e4.out.lt j e).1;have:=HA.out;omega));have g8:=(d8.out.kept a9).beside c3 b6.out e5.out;have h8:=YF n7.out e5.out (λj e=>q8m (d8.out.lt j e) a9.size);go_roundw
       case rel=>exact⟨i+1,by simp,by omega,d5,by rw[d7.out];exact n2,g8,h8⟩
       case measure=>simp[qb2];omega
    ·obtain rfl:i=L.length:=by omega
     have HN:=q1D (show qI A U (.slice na _ nc) (P++(L.take L.length).map (ze l)) from⟨vs,a8,b0⟩);clear hG b0 a8;go_wp2;go_roundw
     case rel=>exact⟨k+1,by simp,by omega,k6.out,by rw[m9.out];simpa using HN.out⟩
     case measure=>simp[qb2];omega
  ·obtain rfl:k=l.length+1:=by omega
   have l8:¬ ((l.length+1:Nat):Int)<=(l.length:Int):=by omega
   clear hG hO;go_wp2;go_ret;exact⟨_,rfl,k7.out,HO.out.low (Nat.le_of_eq HA.out.symm)⟩
def jT(l:List Int)(n:Nat):List Int:=(qQ n).filter λx=>l.contains x
theorem q0H(l:List Int)(n:Nat):jT l (n+1)=jT l n++if(n:Int)∈l then[(n:Int)] else[]:=by
 unfold jT;rw[KV,List.filter_append];by_cases h:(n:Int)∈l<;>simp[h]
theorem q2l(lo hi:Nat)(lv:q58)(l:List Int)(n:Nat)(w:q3g)(hI:qe lo hi w lv l)(hn:n<=1000) :
  qaD Tryp.prog 45 #[lv,.int .i64 n] w λe w'=>∃v,e=.returned v/\w.grownBy w' none/\qe w.heap.size w'.heap.size w' v (jT l n):=by
 obtain⟨i0,b0,a8,a7,a6⟩:=qch Tryp.info3p;obtain⟨lb,lc,rfl,c3,-⟩:=hI.cell;have b8:=q1D hI;obtain⟨A,hA⟩:∃A,A=w.heap.size:=⟨_,rfl⟩
 have HA:=q1D hA;clear hA hI;go_enter Tryp.func45,Tryz.ntmps45;go_wp2;go_loopw [5,6] (λov kv wr=>∃k:Nat,kv=.int .i64 k/\k<=n/\w.grownBy wr none/\wr.ownsRow A 3 1 ov (jT l k).length ((jT l k).map (q9q .i64))) (λ_ kv _=>(n - qb2 kv).toNat)
 case atStart=>exact⟨0,rfl,by omega,q8j _ _,qcb _ _ _ _⟩
 case round =>
  obtain⟨k,rfl,hk,hG,hO⟩:=hrel;have HG:=q1D hG;by_cases hlt:k<n
  ·have c8:(k:Int)<(n:Int):=by omega
   have HS:=q1D (q0H l k);have b6:(jT l k).length<=1000:=by
    unfold jT;exact q87 (qcd _ _) (by rw[qP];omega)
   generalize jT l k=M at hO HS b6 ⊢;obtain⟨oa,oc,rfl,-⟩:=jo hO;have HO:=q1D hO;have HL:=q1D (b8.out.kept hG (by simp));have c9:A<=wr.heap.size:=by have:=HA.out;have:=hG.size;omega
   clear hO hG;by_cases hm:(k:Int)∈l
   ·rw[if_pos hm] at HS
    have HM:=q1D hm;clear hm;go_wp2_with (first
     | (go_at_call 40;refine(q1x _ _ _ l k _ HL.out).mono ?_;rintro e w3 ⟨r,rfl,hr,rfl⟩;have a9:0<=r:=(by have:=mt hr.1;simp only[Decidable.not_not] at this;have:=this HM.out;omega);clear hr)
     | (at_builtin;(refine wpList_append_own _ rfl _ _ 29 rfl A 3 i0 _ 1 8 Tryp.und29' b0 a8 a7 a6 rfl (by decide) (.slice oa M.length oc) M.length _ rfl (HO.out.alloc _) ⟨wr.heap.size,0,none⟩ 1 1 [.int .i64 k] rfl rfl (qbg (cs:=#[.int .i64 k]) (t:=3) (fr:=(0,0)) (q7j wr _)) (by simp[qbD]) (by unfold maxLen;omega) (by omega) (by simp;omega) ?_);intro v5 w5 hown Z _;have HW:=q1D hown;have b9:=q1D Z;clear hown Z))
    have b7:=qc0 (row:=none) (HG.out.trans (q34 wr (.cells #[.int .i64 k] 3) none)) b9.out (λj e=>.inl (by have:=(HO.out.lt j e).1;have:=HA.out;omega));go_roundw
    case rel=>exact⟨k+1,by simp,by omega,b7,by rw[HS.out,qc5,qb3];exact HW.out⟩
    case measure=>simp[qb2];omega
   ·rw[if_neg hm] at HS
    have HM:=q1D hm;clear hm;go_wp2_with (first
     | (go_at_call 40;refine(q1x _ _ _ l k _ HL.out).mono ?_;rintro e w3 ⟨r,rfl,hr,rfl⟩;have a9:¬ 0<=r:=(by have:=hr.2 HM.out;omega);clear hr))
    go_roundw
    case rel=>exact⟨k+1,by simp,by omega,HG.out,by rw[HS.out,List.append_nil];exact HO.out⟩
    case measure=>simp[qb2];omega
  ·obtain rfl:k=n:=by omega
   have hi:=qe.own hO (by
    unfold jT;have:=qcd (λx=>l.contains x) (qQ k);rw[qP] at this;omega)
   have HI:=q1D hi;clear hG hO hi;go_wp2;go_ret;exact⟨_,rfl,HG.out,HI.out.mono (Nat.le_of_eq HA.out.symm) (q5m _)⟩
theorem Y4(la ha lb hb:Nat)(va vb:q58)(a b:List Int)(w:q3g)(hA:qe la ha w va a)(hB:qe lb hb w vb b) :
  qaD Tryp.prog 47 #[va,vb] w λe w'=>e=.returned (.bool (decide (zv a b<0)))/\w.grownBy w' none:=by
 obtain⟨ba,ca,rfl,c9,-⟩:=hA.cell;obtain⟨bb,cb,rfl,hl2,-⟩:=hB.cell;have c3:=q1D hA;have b9:=q1D hB;clear hA hB;go_enter Tryp.func47,Tryz.ntmps47;go_wp2;go_loopw [5] (λiv wr=>∃k:Nat,iv=.int .i64 k/\k<=a.length/\k<=b.length/\zv a b=zv (a.drop k) (b.drop k)/\w.grownBy wr none) (λiv _=>(a.length - qb2 iv).toNat)
 case atStart=>exact⟨0,rfl,by omega,by omega,rfl,q8j _ _⟩
 case round =>
  obtain⟨k,rfl,d6,d5,hc,hG⟩:=hrel;have HC:=q1D hc;have HG:=q1D hG;clear hc;by_cases h1:k<a.length
  ·have d8:(k:Int)<(a.length:Int):=by omega
   have d9:((k:Int) == (a.length:Int))=false:=by rw[beq_eq_false_iff_ne];omega
   by_cases h2:k<b.length
   ·have d7:(k:Int)<(b.length:Int):=by omega
    have a7:((k:Int) == (b.length:Int))=false:=by rw[beq_eq_false_iff_ne];omega
    obtain⟨x,e1⟩:∃x,a[k]?=some x:=⟨_,q7C h1⟩
    obtain⟨y,e2⟩:∃y,b[k]?=some y:=⟨_,q7C h2⟩
    obtain⟨_,_,ea,_,a9⟩:=(c3.out.kept hG (by simp)).cell;injection ea with ea1 _ ea3;subst ea1 ea3;obtain⟨A1,o1,rfl,-,-,-,b6⟩:=a9 (by intro e;rw[e] at h1;simp at h1);obtain⟨_,_,eb,_,a8⟩:=(b9.out.kept hG (by simp)).cell;injection eb with eb1 _ eb3;subst eb1 eb3;obtain⟨B1,o2,rfl,-,-,-,b0⟩:=a8 (by intro e;rw[e] at h2;simp at h2);have x1:=b6 k h1;have y1:=b0 k h2;rw[e1] at x1;rw[e2] at y1;simp only[q88] at x1 y1;have b7:=q1D (q0n a b k x y e1 e2);clear a9 a8 b6 b0 e1 e2 hG;have HX:=q1D x1;have HY:=q1D y1;by_cases hxy:x=y
    ·subst hxy
     have c8:IntKind.i64.wrap ((k:Int)+1)=(k:Int)+1:=qa7 _ (by omega);have b8:=q1D (show zv a b=zv (a.drop (k+1)) (b.drop (k+1)) by rw[HC.out,b7.out,if_neg (by simp[Zt.2 rfl])]);go_upto_region 2 with(fail)
     go_quiet (fail);go_wp2;go_roundw
     case rel=>exact⟨k+1,by simp,by omega,by omega,b8.out,HG.out.trans (qi _ _ none)⟩
     case measure=>simp[qb2];omega
    ·have hne:(x == y)=false:=by rw[beq_eq_false_iff_ne];exact hxy
     have HV:=q1D (show decide (zv a b<0)=decide (x<y) by
      rw[HC.out,b7.out,if_pos (by simpa using mt Zt.1 hxy)];exact decide_eq_decide.2 JG)
     clear hxy;go_upto_region 2 with(fail)
     go_quiet (fail);go_upto_region 6 with(fail)
     have a6:=qi wr nq none;have x1:=a6.cell HX.out (by simp);have y1:=a6.cell HY.out (by simp);have Z:=q1D (HG.out.trans a6);generalize wr.drewN nq=w3 at x1 y1 Z ⊢;clear a6;go_quiet (fail);go_wp2;go_ret;exact⟨by rw[HV.out];rfl,Z.out.trans (qi _ _ none)⟩
   ·obtain rfl:k=b.length:=by omega
    have HV:=q1D (show decide (zv a b<0)=false by
     rw[HC.out,List.drop_length];cases a.drop b.length<;>simp[zv])
    go_upto_region 2 with(fail)
    go_quiet (fail);go_wp2;go_ret;exact⟨by rw[HV.out];rfl,HG.out.trans (qi _ _ none)⟩
  ·obtain rfl:k=a.length:=by omega
   by_cases h2:a.length=b.length
   ·have HV:=q1D (show decide (zv a b<0)=false by
     rw[HC.out,h2,List.drop_length];cases a.drop b.length<;>simp[zv])
    have a7:((a.length:Int) == (b.length:Int))=true:=by rw[h2];simp
    clear h2;go_upto_region 2 with(fail)
    go_quiet (fail);go_wp2;go_ret;exact⟨by rw[HV.out];rfl,HG.out.trans (qi _ _ none)⟩
   ·have a7:((a.length:Int) == (b.length:Int))=false:=by rw[beq_eq_false_iff_ne];omega
    have HV:=q1D (show decide (zv a b<0)=true by
     rw[HC.out,List.drop_length,qcq (show a.length<b.length by omega)];simp[zv])
    clear h2;go_upto_region 2 with(fail)
    go_quiet (fail);go_upto_region 6 with(fail)
    have Z:=q1D (HG.out.trans (qi wr nq none));generalize wr.drewN nq=w3 at Z ⊢;go_quiet (fail);go_wp2;go_ret;exact⟨by rw[HV.out];rfl,Z.out.trans (qi _ _ none)⟩
end Go.Proofs.YtidgnkmjgioapaaGreat
end
section
namespace Go.Proofs.YtidgnkmjgioapaaGreat
open Go.RowKit Go.Shelf
attribute [local go_sem] Oper.semAt_some
structure FrmN(w3:q3g)(Bl N:Nat)(W:q3g):Prop where
 os:W.os=w3.os
 tape:W.tape=w3.tape
 output:W.output=w3.output
 size:w3.heap.size<=W.heap.size
 keep:∀k,k<w3.heap.size->k≠Bl->k≠N->W.heap[k]?=w3.heap[k]?
theorem ord_len:∀n,n<=5->(yh (qQ n)).length<=120
 | 0,_=>by decide
 | 1,_=>by decide
 | 2,_=>by decide
 | 3,_=>by decide
 | 4,_=>of_decide_eq_true (by kernel_rfl)
 | 5,_=>of_decide_eq_true (by kernel_rfl)
 | n+6,h=>by omega
end Go.Proofs.YtidgnkmjgioapaaGreat
end
section
namespace Go.Proofs.YtidgnkmjgioapaaGreat
open Go.RowKit
theorem q2c(ps:List Par)(lim:Int)(x:List Int)(pv qv:q58)(w:q3g)(hP:qr 0 w.heap.size w pv ps)(hI:qe 0 w.heap.size w qv x)(hok:YOk ps lim)(hp:PIn ps x) :
  qaD Tryp.prog 37 #[.agg #[pv,.int .i64 lim],qv] w λe w'=>∃v c:Int,e=.returned (.tuple #[.int .i64 v,.int .i64 c])/\w.grownBy w' none/\((jN ps lim x=true->v=1/\c=0)/\(jN ps lim x=false->(zj ps x<=lim->¬ v=1/\c=0)/\(¬ zj ps x<=lim->c=10))):=by
 refine(q2d 0 w.heap.size pv qv ps lim x w hP hI (q5m _) hok hp).mono ?_;rintro e w' ⟨v,rfl,hv,hg⟩;refine⟨v,_,rfl,hg,λh=>?_,λh=>⟨λht=>?_,λht=>if_neg ht⟩⟩
 ·obtain⟨h1,h2⟩:=(Jg hok).1 h
  exact⟨(hv h1).trans h2,if_pos h1⟩
 ·refine⟨λh2=>?_,if_pos ht⟩
  have:=(Jg hok).2 ⟨ht,(hv ht).symm.trans h2⟩;rw[h] at this;cases this
end Go.Proofs.YtidgnkmjgioapaaGreat
end
section
namespace Go.Proofs.YtidgnkmjgioapaaGreat
open Go Go.RowKit Go.Co Go.Sim Go.Conc Go.ConcN
theorem q7a:∀n,n<=4->(yX n)[0]?=some (qQ n)
 | 0,_=>by kernel_rfl
 | 1,_=>by kernel_rfl
 | 2,_=>by kernel_rfl
 | 3,_=>by kernel_rfl
 | 4,_=>by kernel_rfl
 | n+5,h=>by omega
section
variable{P:q8b}
theorem q8B{ops:Array qbz}{o:qbz}{a:Act}{w:q3g}{K:Act->q3g->Prop}{Q:Exit->Act->q3g->Prop}{E:Prop}(Z:qb0 o (yielded ops a.tmps)=true)(s x:qaH)(t:q8u)
  (ho:o.op=.call { callee:=.builtin .append,args:=#[s,x],argTypes:=#[t,t] })
  (base:Nat) (e:q8u) (i:TypeInfo) (z:q58) (size bytes:Nat) (ht:P.underlying t=some (.slice e)) (hi:P.info? e=some i) (hz:i.zero=some z)
  (hsize:i.size=size) (hby:i.bytes=bytes) (hzs:z.cells.size=size) (hsz:0<size)
  (v:q58) (n:Nat) (xs:List q58) (hs:a.eval s=v) (hown:w.ownsRow base e size v n xs)
  (ad:qb9) (m c:Nat) (news:List q58) (hx:a.eval x=.slice (some ad) m c) (hl:news.length=m*size) (hnews:∀j u,news[j]?=some u->w.cell? (ad.add j)=some u) (h1:∀u∈news,u.oneCell'=true)
  (h63:n+m<=maxLen) (hbytes:(n+m)*bytes<=140737488355328) (hbase:base<=w.heap.size)
  (h:∀v' w',w'.ownsRow base e size v' (n+m) (xs++news)->w.grownBy w' v.ownBlock->K (a.put o.dst v') w') :
  if qb0 o (yielded ops a.tmps)=true then Oper.wp P o a w K Q else E:=by
 rw[if_pos Z];exact wp_append_own w s x t ho base e i z size bytes ht hi hz hsize hby hzs hsz v n xs hs hown ad m c news hx hl hnews h1 h63 hbytes hbase λv' w' h2 h3 _=>h v' w' h2 h3
end
theorem q30{ps:List Par}{lim:Int}{n:Nat}:∀(L:List (List Int)) (b:Bool × List Int),(∀c∈L,q42 n c)->b.2.length<=n->(L.foldl (vm ps lim) b).2.length<=n
 | [],_,_,h=>h
 | c::L,b,hL,h=>by
  rw[List.foldl_cons];refine q30 L _ (λx hx=>hL x (by simp[hx])) ?_;have hc:=hL c (by simp);unfold vm;cases e:(yh c).find? (jN ps lim) with
  | none=>exact h
  | some p =>
   have hp:=(hc.pm p (List.mem_of_find?_eq_some e)).length_eq;have:=hc.len;dsimp only;split
   ·exact h
   ·omega
section
variable[J:JunkSet]{Post:q58->q3g->Prop}{W:q3g}
theorem el7(D:Two Tryp.prog q8v)(hok:JunkSet.okf 137)(v6:∀i,¬ JunkSet.jk i)(hin:Tryp.prog.inits.idxOf? 7=none)(r8:Tryz.prog.inits.idxOf? 7=none){base:Option qb9}{len cap:Nat}
  {wq:q3g} (hl:(len:Int)<=9223372036854775807) (hr:0<len->∃lb lo,base=some ⟨lb,lo,none⟩/\∀i,i<len->∃x,wq.cell? ⟨lb,lo+i,none⟩=some (.int .i64 x)) (h0:qU wq 0)
  (m7:∀w,(∀j,j<W.heap.size->w.heap[j]?=W.heap[j]?)->w.os=W.os->w.output=W.output->W.heap.size<=w.heap.size->Post (.bool true) w) :
  EL Tryp.prog q8v 7 Post W (G (qan Tryp.prog 7 #[.slice base len cap] .normal) [qj 7]) wq:=by
 have hs:Tryp.prog.funcs[(q9v 7).fn]?=Tryz.prog.funcs[(q9v 7).fn]?:=zd 7 (by decide);have hb:Bot 7 [qj 7]:=⟨[],rfl⟩
 rw[q7k (fn:=Tryz.f7) (c0:=Tryz.f7.body.getD .skip) Tryp.func7 (by kernel_rfl)];simp only[Tryz.f7,q88];walk_nrm;refine EL.seq D hb hs ?_;refine EL.piece D hb hs λT=>?_;go_wp2;refine EL.tape (wq:=wq) ?_ T;refine EL.seq D hb hs ?_;refine EL.piece D hb hs λT=>?_;have HR:=q1D hr;clear hr;go_wp2_with (first
  | (go_at_call 24;refine(q51 base len cap (wq.tp T) hl HR.out).mono ?_;rintro e w2 ⟨rfl,hg2,q2⟩;have G2:=q1D hg2;have T2:=q1D q2;clear hg2 q2)
  | (go_at_call 33;refine(q47 (wq.tp T).heap.size 0 4 w2 T2.out (by omega) (by omega)).mono ?_;rintro e w3 ⟨ps,lim,yv,q1,rfl,r6,m8⟩;have N2:=q1D r6;have P2:=q1D m8;have YD:=q1D q1;obtain⟨yb,yc,rfl,-,-⟩:=m8.cell;clear r6 m8 q1))
 obtain⟨X,hX⟩:∃X,X=w3.heap.size:=⟨_,rfl⟩
 rw[<- hX];have b6:=q34 w3 (.cells #[.slice yb ps.length yc,.int .i64 lim] 24) none;have s3:(wq.tp T).grownBy w3 none:=G2.out.andThen N2.out.1 (λj e=>by cases e;exact .inl (q5m _));refine yB (λq=>(wq.tp q.tape).grownBy q none/\q.heap[X]?=some (.cells #[.slice yb ps.length yc,.int .i64 lim] 24 (0,0))/\qr 0 q.heap.size q (.slice yb ps.length yc) ps) ⟨tpg (s3.trans b6),by rw[hX];exact q7j _ _,(P2.out.alloc _).mono (qa8 _) b6.size⟩ λu2 hF=>?_;obtain⟨g2,x2,p2⟩:=hF;have g5:ps.length<=4:=YD.out.len;have l5:=q1D (YD.out.yok (by decide));have r5:ps.length<=5:=l5.out.len;clear b6 N2 P2 hX YD s3 G2 T2 HR;obtain⟨a6,a9⟩:∃a6,a6=Zu (qQ ps.length):=⟨_,rfl⟩
 have x0:=q1D (show ∀c∈a6,q42 ps.length c by rw[a9,q5E _ g5];exact λc hc=>q4z g5 hc);have z7:a6.length<=16000:=by
  have:=YS (l:=qQ ps.length) (by rw[qP];exact r5) (k:=(qQ ps.length).length+1) (by rw[qP];omega);rw[a9];have e:Zu (qQ ps.length)=xj (qQ ps.length) ((qQ ps.length).length+1):=rfl;rw[e];rw[qP] at this ⊢;omega
 have x5:=q1D a9;obtain⟨Mo,k8⟩:∃Mo,Mo=(jr ps lim (zN (qQ ps.length) 0)).2:=⟨_,rfl⟩
 have A3:Mo.length<=ps.length:=by rw[k8];exact q30 _ _ (λc hc=>q4z g5 hc) (qa8 _)
 have z0:=q1D (show Mo=Qy ps lim a6 [] by rw[k8,a9];exact most_is ps lim l5.out.l1 g5);have z1:=q1D k8;clear a9 k8;refine EL.seq D hb hs ?_;refine EL.piece D hb hs λT=>?_;have c0:=qa (w:=u2.tp T) x2 (o:=0) rfl;have c1:=qa (w:=u2.tp T) x2 (o:=1) rfl;go_wp2_with (first
  | (go_at_call 44;refine(q31 _ ps lim (u2.tp T) p2 l5.out).mono ?_;rintro e w4 ⟨mv,rfl,e9,k7⟩;rw[<- z1.out] at k7;have G4:=q1D e9;have I4:=q1D k7;obtain⟨mb,mc,rfl,-,-⟩:=k7.cell;clear e9 k7))
 refine yB (λq=>(wq.tp q.tape).grownBy q none/\q.heap[X]?=some (.cells #[.slice yb ps.length yc,.int .i64 lim] 24 (0,0))/\qr 0 q.heap.size q (.slice yb ps.length yc) ps/\qe 0 q.heap.size q (.slice mb Mo.length mc) Mo) ⟨gb g2 (tpg G4.out),blk (w:=u2.tp T) G4.out (by simp) x2,(qr.kept (w:=u2.tp T) p2 G4.out (by simp)).mono (q5m _) G4.out.size,I4.out⟩ λu3 hF=>?_;obtain⟨g3,x3,p3,m3⟩:=hF;clear G4 I4 g2 x2 p2 c0 c1;refine EL.seq D hb hs ?_;refine EL.piece D hb hs λT=>?_;have c0:=qa (w:=u3.tp T) x3 (o:=0) rfl;have A6:(Mo.length:Int)<=(ps.length:Int):=by omega
 go_wp2;refine EL.tape (wq:=u3) ?_ T;refine EL.seq D hb hs ?_;refine EL.piece D hb hs λT=>?_;go_wp2;refine EL.tape (wq:=u3) ?_ T;refine EL.seq D hb hs ?_;refine EL.piece D hb hs λT=>?_;clear c0;have XR:=q1D λ(w:q3g) (h:(u3.tp T).grownBy w none)=>(blk h (by simp) (show(u3.tp T).heap[X]?=_ from x3):w.heap[X]?=_)
 have n7:(u3.tp T).grownBy (u3.tp T).drew none:=qc _ none;have t7:=q1D n7;have l9:(yX ps.length)[0]?=some (qQ ps.length):=by
  exact q7a _ g5
 have d7:=q1D l9;have hsz:jT (qQ ps.length) ps.length=qQ ps.length:=List.filter_eq_self.2 λx hx=>by simpa using hx
 have t2:=q1D hsz;have b9:=q1D (J6 ps.length r5 (u3.tp T).drew);obtain⟨oz,b7⟩:∃oz,oz=yX ps.length:=⟨_,rfl⟩
 rw[<- b7] at b9 d7;have l8:0<oz.length:=(q8w.1 d7.out).1;have q7:(0:Int)<(oz.length:Int):=by omega
 have v9:=q1D (qa (XR.out _ n7) (o:=0) rfl);have hst:∀w5,(u3.tp T).grownBy w5 none->w5.cell? ⟨X,0,none⟩=some (.slice yb ps.length yc):=λw5 h=>qa (XR.out _ h) rfl;have g7:=q1D hst;have q0:=hst _ (q8j _ none);clear n7 l9 hsz b7 hst;go_upto_region 6 with(fail)
 refine qR 11 (λw'=>w'.cell? ⟨X,0,none⟩=some (.slice yb ps.length yc)) (by kernel_rfl) (by kernel_rfl) q0 (λZ=>?_);simp only[q8l,q9k,q9F,qbA,q9m,qao,qat,qbd,qae,q9y];refine tk 0 ?_;try go_frame
 refine tk 1 ?_;try go_frame
 refine tk 2 ?_;try go_frame
 refine tk 6 ?_;try go_frame
 refine tk 7 ?_;try go_frame
 refine tk 8 ?_;try go_frame
 refine rdy [3] ?_;refine cns 3 (λK hK=>?_) ?_;rotate_left
 ·exact qm.nil
 go_simp;go_at_call 46;refine b9.out.mono ?_;rintro e w4 ⟨av,rfl,e9,q6⟩;have G4:=q1D (t7.out.trans e9);obtain⟨ab,ac,rfl,b8⟩:=q6.at;obtain⟨AB,rfl,a8⟩:=b8 l8;obtain⟨y0,l7,d5⟩:=a8 0 _ d7.out;obtain⟨nb,nc,rfl,-,-⟩:=d5.cell;rw[qP] at l7 d5;have t1:=q1D d5;refine hK.out _ _ (g7.out _ G4.out) (λZ=>?_);clear hK K e9 q6 b8 a8 d5;try go_frame
 refine tk 4 ?_;try go_frame
 refine rdy [5] ?_;refine cns 5 (λK hK=>?_) ?_;rotate_left
 ·exact qm.nil
 go_simp;refine hK.out _ _ (g7.out _ G4.out) (λZ=>?_);clear hK K;try go_frame
 refine rdy [9] ?_;refine cns 9 (λK hK=>?_) ?_;rotate_left
 ·exact qm.nil
 go_simp;go_at_call 45;refine(q2l 0 _ _ (qQ ps.length) ps.length w4 t1.out (by omega)).mono ?_;rintro e w5 ⟨sv,rfl,s2,n2⟩;rw[t2.out] at n2;have G5:=q1D (G4.out.trans s2);have I5:=q1D n2;refine hK.out _ _ (g7.out _ G5.out) (λZ=>?_);clear hK K s2 n2;try go_frame
 refine rdy [10] ?_;refine cns 10 (λK hK=>?_) ?_;rotate_left
 ·exact qm.nil
 go_simp;go_at_call 42;refine(q5i _ _ _ (qQ ps.length) w5 I5.out (q5m _) (by rw[qP];omega)).mono ?_;rintro e w6 ⟨cv,rfl,s1,k6⟩;rw[<- x5.out] at k6;have G6:=q1D (G5.out.trans s1);have R6:=q1D k6;obtain⟨sa,sc,rfl,-⟩:=k6.at;refine hK.out _ _ (g7.out _ G6.out) (λZ=>?_);clear hK K s1 k6;try go_frame
 refine⟨by kernel_rfl,?_⟩;simp only[qbh,qbH];go_wp2;refine yB (λq=>(wq.tp q.tape).grownBy q none/\q.heap[X]?=some (.cells #[.slice yb ps.length yc,.int .i64 lim] 24 (0,0))/\qr 0 q.heap.size q (.slice yb ps.length yc) ps/\qe 0 q.heap.size q (.slice mb Mo.length mc) Mo/\qI w5.heap.size q (.slice sa a6.length sc) a6) ⟨gb g3 (tpg G6.out),XR.out _ G6.out,(qr.kept (w:=u3.tp T) p3 G6.out (by simp)).mono (q5m _) G6.out.size,m3.kn G6.out,R6.out⟩ λu4 hF=>?_;obtain⟨g4,x4,p4,m4,r4⟩:=hF;clear XR t7 d7 t2 b9 v9 g7 G4 G5 G6 I5 R6 t1 g3 x3 p3 m3 Z l8 q7 q0 l7;refine EL.seq D hb hs ?_;refine EL.piece D hb hs λT=>?_;have XR:=q1D λ(w:q3g) (h:(u4.tp T).grownBy w none)=>(blk h (by simp) (show(u4.tp T).heap[X]?=_ from x4):w.heap[X]?=_)
 have PR:=q1D λ(w:q3g) (h:(u4.tp T).grownBy w none)=>((qr.kept (w:=u4.tp T) p4 h (by simp)).mono (q5m _) h.size:qr 0 w.heap.size w (.slice yb ps.length yc) ps)
 have RR:=q1D λ(w:q3g) (h:(u4.tp T).grownBy w none)=>qI.kept (w:=u4.tp T) r4 h;have G4:=q1D g4;have M4:=q1D (show qe 0 (u4.tp T).heap.size (u4.tp T) (.slice mb Mo.length mc) Mo from m4);clear g4 x4 p4 m4 r4;go_wp2;go_loopw [6,8] (λbv iv wr=>∃i:Nat,iv=.int .i64 i/\i<=a6.length/\(u4.tp T).grownBy wr none/\qe 0 wr.heap.size wr bv (Qy ps lim (a6.take i) [])) (λ_ iv _=>(a6.length - qb2 iv).toNat)
 case atStart=>exact⟨0,rfl,by omega,q8j _ _,qe.nil _ _ _⟩
 case round =>
  obtain⟨i,rfl,hi,hG,hB⟩:=hrel;have HG:=q1D hG;have HB:=q1D hB;by_cases hlt:i<a6.length
  ·obtain⟨c,hc⟩:∃c,a6[i]?=some c:=⟨_,q7C hlt⟩
   have hco:=x0.out c (q8z hc);have B3:(i:Int)<(a6.length:Int):=by omega
   obtain⟨_,_,ea,b8⟩:=(RR.out _ hG).at;injection ea with ea1 _ ea3;subst ea1 ea3;obtain⟨SB,rfl,a8⟩:=b8 (by omega);obtain⟨y,hy,hyi⟩:=a8 i c hc;obtain⟨cb,cc,rfl,-,-⟩:=hyi.cell;have hcl:=hco.len;have u5:=q1D (show Qy ps lim (a6.take (i+1)) []=(ZL c).foldl (kD ps lim) (Qy ps lim (a6.take i) []) by unfold Qy;rw[qbc,hc,List.foldl_append];rfl);obtain⟨b0,s4⟩:∃b0,b0=Qy ps lim (a6.take i) []:=⟨_,rfl⟩
   rw[<- s4] at u5 HB;have b9:=q1D hco;have HY:=q1D hyi;have v8:=q1D hy;have p7:=q1D (J6 c.length (by omega) wr);obtain⟨oz,b7⟩:∃oz,oz=yX c.length:=⟨_,rfl⟩
   rw[<- b7] at p7;have z5:oz.length<=120:=by rw[b7,Yh _ (by omega)];exact ord_len _ (by omega)
   have t3:=q1D (show ZL c=oz.map (ze c) by rw[b7];rfl);have x8:=q1D (show ∀o∈oz,o.length=c.length/\∀j∈o,0<=j/\j<c.length by
    rw[b7,Yh _ (by omega)];intro o ho;have hp:=ord_is (show c.length<=5 by omega) ho;exact⟨by rw[hp.length_eq,qP],λj hj=>Yl (hp.subset hj)⟩)
   obtain⟨W0,rfl⟩:∃W0,W0=wr:=⟨_,rfl⟩
   obtain⟨O0,s7⟩:∃O0,O0=W0.heap.size:=⟨_,rfl⟩
   rw[<- s7] at p7;clear hG hB b8 a8 hyi b7 s4 hco hc s7;go_upto_region 11 with(first
    | (go_at_call 46;refine p7.out.mono ?_;rintro e w1 ⟨v,rfl,hg,hr⟩;obtain⟨oa,oc,rfl,-⟩:=hr.at;have k5:=q1D hg;have x6:=q1D hr;clear hg hr))
   have z4:=q1D ((HB.out.kept k5.out (by simp)).mono (q5m _) k5.out.size);have t4:=q1D (HG.out.trans k5.out);clear hy;go_wp2;go_loopw [6,10] (λbv kv wr=>∃k:Nat,kv=.int .i64 k/\k<=oz.length/\w1.grownBy wr none/\qe 0 wr.heap.size wr bv ((oz.take k).foldl (λb o=>kD ps lim b (ze c o)) b0)) (λ_ kv _=>(oz.length - qb2 kv).toNat)
   case atStart=>exact⟨0,rfl,by omega,q8j _ _,z4.out⟩
   case round =>
    obtain⟨k,rfl,hk,hG,hB⟩:=hrel;obtain⟨U,rfl⟩:∃U,U=wr:=⟨_,rfl⟩
    have t5:=q1D hG;have l6:=q1D hB;by_cases v3:k<oz.length
    ·obtain⟨o,ho⟩:∃o,oz[k]?=some o:=⟨_,q7C v3⟩
     obtain⟨m9,r3⟩:=x8.out o (q8z ho);have A7:(k:Int)<(oz.length:Int):=by omega
     obtain⟨_,_,ea,b8⟩:=(x6.out.kept hG).at;injection ea with ea1 _ ea3;subst ea1 ea3;obtain⟨OB,rfl,a8⟩:=b8 (by omega);obtain⟨z,hz,hzi⟩:=a8 k o ho;obtain⟨zb,zc,rfl,-,-⟩:=hzi.cell;rw[m9] at hz;have a7:=q1D (show(oz.take (k+1)).foldl (λb o=>kD ps lim b (ze c o)) b0=kD ps lim ((oz.take k).foldl (λb o=>kD ps lim b (ze c o)) b0) (ze c o) by rw[qbc,ho,List.foldl_append];rfl);obtain⟨b1,hb1⟩:∃b1,b1=(oz.take k).foldl (λb o=>kD ps lim b (ze c o)) b0:=⟨_,rfl⟩
     rw[<- hb1] at a7 l6;have m5:=q1D (show PIn ps (ze c o) by
      have hm:ze c o∈yh c:=by rw[<- b9.out.eq,t3.out];exact List.mem_map.2 ⟨o,q8z ho,rfl⟩
      have hp:=b9.out.pm _ hm;exact⟨λy hy=>b9.out.mem y (hp.subset hy),hp.nodup_iff.2 b9.out.nd,by rw[hp.length_eq];omega⟩)
     have s8:=q1D hzi;have s9:=q1D hz;have x7:=q1D r3;have d8:=q1D m9;have t8:=q1D (HY.out.kept (k5.out.trans hG) (by simp));have t9:=q1D ((k5.out.trans hG).cell v8.out (by simp));have p8:=q1D (t4.out.trans hG);obtain⟨bb,bc,rfl,-,-⟩:=l6.out.cell;obtain⟨S0,s6⟩:∃S0,S0=U.heap.size:=⟨_,rfl⟩
     have p5:=q1D s6;obtain⟨i0,n3,v2,v1,v0⟩:=qch Tryp.info3p;clear hG hB b8 a8 hzi hz r3 m9 ho hb1 s6;go_wp2;go_loopw [11,12] (λxv mv wj=>∃m:Nat,mv=.int .i64 m/\m<=c.length/\U.grownBy wj none/\wj.ownsRow S0 3 1 xv m ((ze c (o.take m)).map (q9q .i64))) (λ_ mv _=>(c.length - qb2 mv).toNat)
     case atStart=>exact⟨0,rfl,by omega,q8j _ _,qcb _ _ _ _⟩
     case round =>
      obtain⟨m,rfl,hm,hG,hX⟩:=hrel;have t6:=q1D hG;have HX:=q1D hX;obtain⟨xa,xc,rfl,-⟩:=jo hX;have q4:S0<=wr.heap.size:=by have:=p5.out;have:=hG.size;omega
      have cr:=hG.cell t9.out (by simp);have zr:=hG.cell s9.out (by simp);by_cases A4:m<c.length
      ·obtain⟨j,hj⟩:∃j,o[m]?=some j:=⟨_,q7C (by have:=d8.out;omega)⟩
       have e7:=x7.out j (q8z hj);have p6:=q1D (KT c o m j hj);obtain⟨jn,rfl⟩:∃jn:Nat,j=(jn:Int):=⟨j.toNat,by omega⟩
       have hmm:(m:Int)<(c.length:Int):=by omega
       obtain⟨_,_,es,_,q3⟩:=(s8.out.kept hG (by simp)).cell;injection es with es1 _ es3;subst es1 es3;obtain⟨ZB,zo,rfl,-,-,-,c9⟩:=q3 (by intro e;rw[e] at hj;simp at hj);have x1:=c9 m (by have:=d8.out;omega);rw[hj] at x1;simp only[q88] at x1;have s5:∀w5,U.grownBy w5 none->w5.cell? ⟨ZB,zo+m,none⟩=some (.int .i64 (jn:Int)):=λw5 h=>by
        obtain⟨_,_,e1,_,hh⟩:=(s8.out.kept h (by simp)).cell;obtain⟨Z2,z2,e2,_,_,_,n4⟩:=hh (by intro e;rw[e] at hj;simp at hj);injection e1 with e1 _ _;rw[e2] at e1;cases e1;have:=n4 m (by have:=d8.out;omega);rw[hj] at this;exact this
       obtain⟨_,_,el,_,r7⟩:=(t8.out.kept hG (by simp)).cell;injection el with el1 _ el3;subst el1 el3;obtain⟨CB,co,rfl,-,-,-,d6⟩:=r7 (by intro e;rw[e] at e7;simp at e7;omega);have x2:=d6 jn (by omega);have n8:∀w5,U.grownBy w5 none->w5.cell? ⟨CB,co+jn,none⟩=some (.int .i64 (c[jn]?.getD 0)):=λw5 h=>by
        obtain⟨_,_,e1,_,hh⟩:=(t8.out.kept h (by simp)).cell;obtain⟨Z2,z2,e2,_,_,_,n4⟩:=hh (by intro e;rw[e] at e7;simp at e7;omega);injection e1 with e1 _ _;rw[e2] at e1;cases e1;exact n4 jn (by omega)
       rw[Int.toNat_natCast] at p6;generalize c[jn]?.getD 0=zz at x2 n8 p6;have A9:(jn:Int)<(c.length:Int):=by omega
       have A8:(m:Int)<(o.length:Int):=by have:=d8.out;omega
       have w8:=q1D λ(w5:q3g) (h:U.grownBy w5 none)=>q8D (h.cell t9.out (by simp)) (q8D (h.cell s9.out (by simp)) (q8D (s5 w5 h) (n8 w5 h)));clear hG hX c9 d6 q3 r7 hj e7 s5 n8;go_upto_region 18 with(fail)
       refine qR 16 (λw'=>w'.cell? ⟨SB,i,none⟩=some (.slice (some ⟨CB,co,none⟩) c.length cc)/\w'.cell? ⟨OB,k,none⟩=some (.slice (some ⟨ZB,zo,none⟩) c.length zc)/\w'.cell? ⟨ZB,zo+m,none⟩=some (.int .i64 jn)/\w'.cell? ⟨CB,co+jn,none⟩=some (.int .i64 zz)) (by kernel_rfl) (by kernel_rfl) ⟨cr,zr,x1,x2⟩ (λZ=>?_);simp only[q8l,q9k,q9F,qbA,q9m,qao,qat,qbd,qae,q9y];have q5:S0<=wr.drew.heap.size:=q4;have k9:=q1D (HX.out.kept (qc wr none) (qd6 _));have p9:=q1D (t6.out.trans (qc wr none));generalize wr.drew=wd at Z q5 k9 p9 ⊢;clear cr zr x1 x2;refine tk 0 ?_;try go_frame
       refine tk 1 ?_;try go_frame
       refine tk 2 ?_;try go_frame
       refine tk 3 ?_;try go_frame
       refine tk 4 ?_;try go_frame
       refine tk 5 ?_;try go_frame
       refine tk 6 ?_;try go_frame
       refine tk 7 ?_;try go_frame
       refine tk 8 ?_;try go_frame
       refine tk 9 ?_;try go_frame
       refine tk 10 ?_;try go_frame
       refine tk 11 ?_;try go_frame
       refine tk 12 ?_;try go_frame
       refine tk 13 ?_;try go_frame
       refine rdy [14] ?_;refine cns 14 (λK hK=>?_) ?_;rotate_left
       ·exact qm.nil
       go_simp;have b6:=q34 wd (.cells #[.int .i64 zz] 3) none;have hh:=q8D (b6.cell Z.1 (by simp)) (q8D (b6.cell Z.2.1 (by simp)) (q8D (b6.cell Z.2.2.1 (by simp)) (b6.cell Z.2.2.2 (by simp))));refine hK.out _ _ hh (λZ=>?_);clear hK K b6;try go_frame
       refine rdy [15] ?_;refine cns 15 (λK hK=>?_) ?_;rotate_left
       ·exact qm.nil
       refine q8B (by kernel_rfl) (.tmp 71) (.tmp 85) 29 rfl S0 3 i0 _ 1 8 Tryp.und29' n3 v2 v1 v0 rfl (by decide) (.slice xa m xc) m _ (by rfl) (k9.out.alloc _) ⟨wd.heap.size,0,none⟩ 1 1 [.int .i64 zz] (by rfl) rfl (qbg (cs:=#[.int .i64 zz]) (t:=3) (fr:=(0,0)) (q7j wd _)) (by simp[qbD]) (by unfold maxLen;omega) (by omega) (by simp;omega) ?_;intro v5 w5 hown c3;have HW:=q1D hown;have z3:=q1D c3;have r9:w5.cell? ⟨SB,i,none⟩=some (.slice (some ⟨CB,co,none⟩) c.length cc)/\w5.cell? ⟨OB,k,none⟩=some (.slice (some ⟨ZB,zo,none⟩) c.length zc)/\w5.cell? ⟨ZB,zo+m,none⟩=some (.int .i64 jn)/\w5.cell? ⟨CB,co+jn,none⟩=some (.int .i64 zz):=by
        have v4:U.grownBy w5 none:=qc0 (row:=none) (p9.out.trans (q34 wd (.cells #[.int .i64 zz] 3) none)) c3 (λj e=>.inl (by have:=(k9.out.lt j e).1;have:=p5.out;omega));exact w8.out w5 v4
       clear hown c3;refine hK.out _ _ r9 (λZ=>?_);clear hK K r9 hh;try go_frame
       refine⟨by kernel_rfl,?_⟩;simp only[qbh,qbH];go_wp2;have v7:=qc0 (row:=none) (p9.out.trans (q34 wd (.cells #[.int .i64 zz] 3) none)) z3.out (λj e=>.inl (by have:=(k9.out.lt j e).1;have:=p5.out;omega));go_roundw
       case rel=>exact⟨m+1,by simp,by omega,v7,by rw[p6.out,qc5];exact HW.out⟩
       case measure=>simp[qb2];omega
      ·obtain rfl:m=c.length:=by omega
       have e6:(ze c o).length=c.length:=by have:=d8.out;simp[ze,this]
       have m6:=qe.own (l:=ze c o) (n:=c.length) (by
        have h:=hX;rw[List.take_of_length_le (by have:=d8.out;omega)] at h;exact h) (by omega)
       obtain⟨x,hx⟩:∃x,x=ze c o:=⟨_,rfl⟩
       rw[<- hx] at e6 m6 m5 a7;have g6:=q1D (m6.mono (qa8 S0) (q5m _));have c0:=qa (XR.out _ (p8.out.trans hG)) (o:=0) rfl;have c1:=qa (XR.out _ (p8.out.trans hG)) (o:=1) rfl;rw[<- e6] at g6 ⊢;have n9:=q1D (q2c ps lim x (.slice yb ps.length yc) (.slice xa x.length xc) wr (PR.out _ (p8.out.trans hG)) g6.out l5.out m5.out);have u0:=q1D ((l6.out.kept hG (by simp)).mono (q5m _) hG.size);have A0:¬ (x.length:Int)<(x.length:Int):=by omega
       rw[e6] at g6 n9 ⊢;clear hG hX m6;go_upto_region 20 with(first
        | (go_at_call 37;refine n9.out.mono ?_;rintro e w6 ⟨v,cd,rfl,hg,hq⟩;have k0:=q1D hg;have HQ:=q1D hq;clear hg hq))
       have e4:=q1D ((u0.out.kept k0.out (by simp)).mono (q5m _) k0.out.size);have l4:=q1D ((g6.out.kept k0.out (by simp)).mono (q5m _) k0.out.size);have d9:=q1D ((t5.out.trans t6.out).trans k0.out);obtain⟨h1,h2⟩:=HQ.out;clear HQ n9 u0 g6 c0 c1;cases hf:jN ps lim x with
       | true =>
        obtain⟨rfl,rfl⟩:=h1 hf;clear h1 h2;have e5:kD ps lim b1 x=if jt x b1 then x else b1:=by unfold kD;rw[hf];simp
        rw[e5] at a7;clear e5 hf;by_cases l1:b1.length<x.length
        ·have u7:(b1.length:Int)<(c.length:Int):=by omega
         rw[if_pos (by unfold jt;simp[l1])] at a7;go_wp2;go_roundw
         case rel=>exact⟨k+1,by simp,by omega,d9.out,by rw[a7.out];have h:=l4.out;rw[<- e6] at h ⊢;exact h⟩
         case measure=>simp[qb2];omega
        ·have u7:¬ (b1.length:Int)<(c.length:Int):=by omega
         by_cases l2:x.length=b1.length
         ·have u6:((c.length:Int) == (b1.length:Int))=true:=by rw[<- l2,<- e6];simp
          by_cases l3:zv x b1<0
          ·rw[if_pos (by unfold jt;simp[l2,l3])] at a7
           have h9:=q1D (Y4 0 _ 0 _ _ _ x b1 w6 l4.out e4.out);rw[decide_eq_true l3] at h9;clear l3;go_wp2_with (first
            | (go_at_call 47;refine h9.out.mono ?_;rintro e w7 ⟨rfl,e8⟩;have c8:=q1D e8;clear e8))
           go_roundw
           case rel=>exact⟨k+1,by simp,by omega,d9.out.trans c8.out,by rw[a7.out];have h:=(l4.out.kept c8.out (by simp)).mono (q5m _) c8.out.size;exact h⟩
           case measure=>simp[qb2];omega
          ·rw[if_neg (by unfold jt;simp[l2,l3])] at a7
           have h9:=q1D (Y4 0 _ 0 _ _ _ x b1 w6 l4.out e4.out);rw[decide_eq_false l3] at h9;clear l3;go_wp2_with (first
            | (go_at_call 47;refine h9.out.mono ?_;rintro e w7 ⟨rfl,e8⟩;have c8:=q1D e8;clear e8))
           go_roundw
           case rel=>exact⟨k+1,by simp,by omega,d9.out.trans c8.out,by rw[a7.out];exact(e4.out.kept c8.out (by simp)).mono (q5m _) c8.out.size⟩
           case measure=>simp[qb2];omega
         ·have u6:((c.length:Int) == (b1.length:Int))=false:=by rw[beq_eq_false_iff_ne];omega
          rw[if_neg (by unfold jt;simp[l2];omega)] at a7;go_wp2;go_roundw
          case rel=>exact⟨k+1,by simp,by omega,d9.out,by rw[a7.out];exact e4.out⟩
          case measure=>simp[qb2];omega
       | false =>
        have e5:kD ps lim b1 x=b1:=by unfold kD;rw[hf];simp
        rw[e5] at a7;have h2:=h2 hf;clear e5 hf h1;by_cases ht:zj ps x<=lim
        ·obtain⟨hv,rfl⟩:=h2.1 ht
         have hv2:(v == 1)=false:=by rw[beq_eq_false_iff_ne];exact hv
         clear ht h2 hv;go_wp2;go_roundw
         case rel=>exact⟨k+1,by simp,by omega,d9.out,by rw[a7.out];exact e4.out⟩
         case measure=>simp[qb2];omega
        ·obtain rfl:=h2.2 (by omega)
         clear ht h2;go_wp2;go_roundw
         case rel=>exact⟨k+1,by simp,by omega,d9.out,by rw[a7.out];exact e4.out⟩
         case measure=>simp[qb2];omega
    ·obtain rfl:k=oz.length:=by omega
     clear hG hB;go_wp2;go_roundw
     case rel=>exact⟨i+1,by simp,by omega,t4.out.trans t5.out,by
      rw[u5.out,t3.out,List.foldl_map];have h:=l6.out;rw[qcc] at h;exact h⟩
     case measure=>simp[qb2];omega
  ·obtain rfl:i=a6.length:=by omega
   rw[qcc,<- z0.out] at hB;obtain⟨fb,fc,rfl,-,-⟩:=hB.cell;replace HB:=q1D hB;clear hG hB;go_wp2;refine yB (λq=>(wq.tp q.tape).grownBy q none/\qe 0 q.heap.size q (.slice mb Mo.length mc) Mo/\qe 0 q.heap.size q (.slice fb Mo.length fc) Mo) ⟨gb G4.out (tpg HG.out),(M4.out.kept HG.out (by simp)).mono (q5m _) HG.out.size,HB.out⟩ λu8 hF=>?_;obtain⟨g8,h8,f8⟩:=hF;clear XR PR RR G4 M4 HG HB;refine EL.seq D hb hs ?_;refine EL.region D hb hs ?_;simp only[qa0,q8l,q9k,q9F,q9m,qa4,qb6];refine EL.list D hb hs [0,1,2,3] [_,_,_,_] (rest:=[4,5,6]) rfl λT3=>?_;go_wp2_with (first
    | (go_at_call 31;refine(jX 0 u8.heap.size 0 u8.heap.size _ _ _ _ (u8.tp T3) h8 f8).mono ?_;rintro e w9 ⟨rfl,n6⟩;rw[decide_eq_true rfl];have G9:=q1D n6;clear n6))
   refine yB (λq=>(wq.tp q.tape).grownBy q none) (gb g8 (tpg G9.out)) λu9 g9=>?_;refine EL.enter D hb hs (fk:=23) (args:=#[]) rfl rfl (λT=>by rw[run_call_body (f:=23) rfl Tryp.func23 (by kernel_rfl) rfl];walk_nrm) (zd 23 (by decide)) ?_;refine el23 D hok v6 hin ⟨_,Tryp.func7,Tryz.func7⟩ ?_ _ [qj 7] hb hs λv u hR=>?_
   ·obtain⟨cs,e,g,h0,n3⟩:=h0
    exact⟨cs,e,g,blk (w:=wq.tp u9.tape) g9 (by simp) h0,n3⟩
   obtain⟨rfl,n6⟩:=hR;rw[qcr];walk_nrm;refine EL.list D hb hs [5,6] [_,_] (rest:=[]) rfl λT4=>?_;go_wp2;refine EL.tape (wq:=u) ?_ T4;refine EL.region_end D hb hs ?_;refine EL.retS D hb hs ?_;exact EL.last r8 rfl rfl Tryz.func7 rfl rfl m7
end
end Go.Proofs.YtidgnkmjgioapaaGreat
end
section
namespace Go.Proofs.YtidgnkmjgioapaaGreat
open Go Go.RowKit Go.Co Go.Sim Go.Conc Go.ConcN Go.ChangeShapes Go.WideShapes
theorem Tryz.own:ownKnob Tryz.prog.godebug=none:=by kernel_rfl
theorem Tryz.laidOut:laidOutB q8v=true:=by kernel_rfl
theorem q6i:Tryz.prog.globals.size=0:=by kernel_rfl
theorem start0:(begin q8v (λ_ _=>0) default).world.heap[0]?=some (.cells ((Array.range Tryz.prog.types.size).map λt=>.int .u64 (Int.ofNat t)) 0 (0,0)):=by kernel_rfl
def OpenAt0(w:q3g):Prop:=∃cs e f,w.heap[0]?=some (.cells cs e f)/\∀(i:Nat) v,cs[i]?=some v->∃k m,v=.int k m
theorem open0{w:q3g}(h:w.ShapedOpen q8v):OpenAt0 w:=by
 obtain⟨o,o0,h1,h2,h3⟩:=h.2 0 (by rw[q6i];exact q5m _) (q45.1 start0).1;rw[start0] at h2;cases h2;rw[q6i,if_neg (by decide)] at h3;subst h3;refine⟨_,_,_,h1,λi v hv=>?_⟩;rw[Array.getElem?_map] at hv;cases hi:(Array.range Tryz.prog.types.size)[i]? with
 | none=>rw[hi] at hv;cases hv
 | some x=>rw[hi] at hv;cases hv;exact⟨_,_,rfl⟩
theorem two0:@Two (JS Tryp.prog q8v ls λ_=>False) Tryp.prog q8v :=
 @Two.mk (JS Tryp.prog q8v ls λ_=>False) _ _ (duoQP _) ⟨⟨JS Tryp.prog Tryp.prog ls λ_=>False⟩,up _,duoQQ _⟩ hrf stub85
def NumLaw(f:qbe):Prop :=
 ∀ [J:JunkSet] {Post:q58->q3g->Prop} {W:q3g},Two Tryp.prog q8v->JunkSet.okf 137->(∀i,¬ JunkSet.jk i)->∀{base:Option qb9} {len cap:Nat} {wq:q3g},(len:Int)<=9223372036854775807 ->
  (0<len->∃lb lo,base=some ⟨lb,lo,none⟩/\∀i,i<len->∃x,wq.cell? ⟨lb,lo+i,none⟩=some (.int .i64 x))->qU wq 0 ->
  (∀w,(∀j,j<W.heap.size->w.heap[j]?=W.heap[j]?)->w.os=W.os->w.output=W.output->W.heap.size<=w.heap.size->Post (.bool true) w) ->
  EL Tryp.prog q8v f Post W (G (qan Tryp.prog f #[.slice base len cap] .normal) [qj f]) wq
theorem q9G{f:qbe}(hf:f≠85)(b6:lst.contains f=true)(b0:NumLaw f){Post:q58->q3g->Prop}{W:q3g}{a0:Option qb9}{len cap:Nat}(hsp:∀a,a0=some a->a.spot=none/\∃cs e g,W.heap[a.block]?=some (.cells cs e g))
  (hl:(len:Int)<=9223372036854775807) (hr:0<len->∃lb lo,a0=some ⟨lb,lo,none⟩/\∀i,i<len->∃x,W.cell? ⟨lb,lo+i,none⟩=some (.int .i64 x)) (h0:qU W 0)
  (a6:∀w,(∀j,j<W.heap.size->w.heap[j]?=W.heap[j]?)->w.os=W.os->w.output=W.output->W.heap.size<=w.heap.size->Post (.bool true) w) :
  Go.Co.Ends q8v Post (solo (G (qan q8v f #[.slice a0 len cap] .normal) []) W) #[]:=by
 letI:JunkSet:=JS Tryp.prog q8v ls λ_=>False
 obtain⟨a9,e0,g0,a7,b8⟩:=h0;have b9:0<W.heap.size:=(q45.1 a7).1
 let kn:Nat->Bool:=λi=>i == 0 || (match a0 with | some a=>i == a.block | none=>false)
 have b7:∀i,kn i=true->i<W.heap.size->∃cs e g,W.heap[i]?=some (.cells cs e g):=by
  intro i hi _;simp only[kn,qcy,beq_iff_eq] at hi;rcases hi with rfl | hi
  ·exact⟨_,_,_,a7⟩
  ·cases a0 with
   | none=>cases hi
   | some a =>
    have:i=a.block:=by simpa using hi
    rw[this];exact(hsp a rfl).2
 refine EL.begin (kn:=kn) (aq:=#[.slice a0 len cap]) two0 b6 (zd f hf) (λi h=>h) (by rw[q6i];exact b9) (λi hi=>?_) b7 ⟨rfl,λi x y hx hy=>?_⟩ ?_
 ·rw[q6i] at hi
  obtain rfl:i=0:=by omega
  rfl
 ·rw[hx] at hy
  cases hy;obtain rfl:x=.slice a0 len cap:=by
   rcases i with _ | i
   ·simpa using hx.symm
   ·simp at hx
  cases a0 with
  | none=>exact .sliceNil _ _
  | some a =>
   obtain⟨a8,cs,e,g,Z⟩:=hsp a rfl;obtain⟨b,o,sp⟩:=a;dsimp only at a8 Z;subst a8;exact .slice _ _ _ _ (xk.2 ⟨(q45.1 Z).1,by simp[kn],rfl⟩)
 ·refine b0 two0 (by show lst.contains 137=true;rfl) (λi h=>h) hl (λhp=>?_) ⟨_,_,_,vC (by rfl) a7,λi v hv=>?_⟩ a6
  rotate_left
  ·have hsz:i<a9.size:=by have:=(q45.1 hv).1;simpa[xw] using this
   obtain⟨k,m,e⟩:=b8 i _ (q9w hsz);rw[q05 _ _ (show a9[i]?=some (.int k m) by rw[<- e];exact q9w hsz)] at hv;cases hv;exact⟨k,m,rfl⟩
  obtain⟨lb,lo,rfl,h⟩:=hr hp;refine⟨lb,lo,rfl,λi hi=>?_⟩;obtain⟨x,hx⟩:=h i hi;obtain⟨-,cs,e,g,Z⟩:=hsp _ rfl;refine⟨x,?_⟩;have hc:cs[lo+i]?=some (.int .i64 x):=by simpa[qal,Z] using hx
  have:=vC (kn:=kn) (by simp[kn]) Z;simp only[qal,this];exact q05 _ _ hc
end Go.Proofs.YtidgnkmjgioapaaGreat
end
