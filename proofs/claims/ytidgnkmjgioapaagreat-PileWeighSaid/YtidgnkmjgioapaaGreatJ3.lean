/-
  Part 6 of the proof. PileWeigh answers true for every list and keeps it. No conditions.
-/
import Derived.Test.YtidgnkmjgioapaaGreatJ2
import Derived.Test.YtidgnkmjgioapaaGreatRows
import Derived.Conc.LeavingOf
import Derived.Conc.HoldsTime
import Derived.ChangeSame
import Derived.ChangeVars
import Derived.JoinedOf
import Derived.RowKit
import Derived.RowKitTokens
import Derived.LaidHandle
import Derived.ProofKit
set_option maxRecDepth 100000
set_option maxHeartbeats 8000000
set_option linter.all false
open And renaming intro->qgw
open Array renaming getElem?_eq_getElem->qgC,getElem?_eq_some_iff->qg8,getElem?_map->qmi,range->qkn
open Bool renaming and_eq_true->qgv,not_eq_true'->qj0,not_false->qli,not_true->qld,or_eq_true->qja
open Classical renaming byContradiction->qhG,em->qk8
open Go renaming Addr->qho,Calls->qhf,Code->qiw,Frame->qgm,FuncId->qhs,Item->qkl,Question->qih,TypeId->qgt,Value->qgb,World->qg7,heap_alloc_new->qgg,info_parts->qiv,madeCells->qjE,maxLen->qk9,undef->qgd,wpList_append_own->qke,wpList_append_own_at->qnc
open Go.Conc renaming base->qgA,run_call_body->qlx
open Go.Frame renaming enter->qh8,finish_at->qiA
open Go.IntWalk renaming i64_in->qgH
open Go.Lib renaming hid->qg4
open Go.Proofs.Tryz renaming f6->qnk,func6->qof,prog->qgr,t4->qpu
open Go.RowKit renaming intOf->qhj
open Go.Value renaming int->qgy,oneCell'->qid,ownBlock->qh3,slice->qh7
open Go.World renaming cell?->qh6,grownBy_alloc->qg6,news_of_block->qhx,ownsRow_nil->qiq,size_alloc->qgk
open Go.World.grownBy renaming andThen->qj5,refl->qgn
open List renaming all_eq_true->qh9,append_assoc->qie,filter_append->qls,flatMap_cons->qiB,getElem?_append_left->qh0,getElem?_append_right->qin,getElem?_eq_getElem->qge,getElem?_eq_none->qic,getElem?_eq_some_iff->qgo,getElem?_map->qj1,getElem?_take_of_lt->qj3,getElem_mem->qm8,length_append->qhe,length_cons->qgq,length_filter_le->qj4,length_map->qjb,length_nil->qgx,length_pos_iff->qkg,length_range'->qpg,length_take->qiE,map_append->qij,map_cons->qkm,mem_append->qiD,mem_cons->qhH,mem_flatMap->qkd,mem_iff_getElem?->qkG,mem_map->qjr,mem_of_getElem?->qgj,mem_range->qi4,mem_singleton->qj2,range->qgB,range'->qmr,range_succ->qjz,size_toArray->qgF,take_add_one->qhd,take_length->qha,take_of_length_le->qmB
open List.range renaming loop->qhg
open Nat renaming add_mul->qmq,le_of_eq->qj6,le_of_lt->qlr,le_refl->qg9,le_trans->qgi,lt_irrefl->ql9,lt_of_lt_of_le->qgp,pow_le_pow_right->ql8,reduceAdd->qgG,strongRecOn->qme,zero_add->qgz,zero_le->qh1
open Option renaming getD_some->qgh
open Option.some renaming inj->qjj
namespace Go.Proofs.YtidgnkmjgioapaaGreat
section
open Go.RowKit
theorem Tp.und36L:Tp.prog.underlying 36=some (.slice 29):=by rw[Tp.und];exact Tryz.underlying36
theorem Tp.info29L:(Tp.prog.info? 29).map (λi=>(i.zero,i.size,i.bytes))=some (some (.slice none 0 0),1,24):=by kernel_rfl
theorem qe.kept_own{lo hi base n:Nat}{e:qgt}{w w':qg7}{v x:qgb}{l:List Int}{vs:List qgb}(h:qe lo hi w x l)(ho:w.ownsRow base e 1 v n vs)(he:e≠3)(hg:w.grownBy w' v.ownBlock):qe lo hi w' x l:=by
 rcases ho.2 with⟨rfl,-⟩ | ⟨g,cap,cur,rfl,-,hg2,-⟩
 ·exact h.kept hg (by simp[qh3])
 ·obtain⟨b,c,rfl,hl,hr⟩:=h;refine⟨b,c,rfl,hl,λhne=>?_⟩;obtain⟨B,o,cs,fr,e1,e2,e3,e4,e5⟩:=hr hne;refine⟨B,o,cs,fr,e1,e2,e3,blk hg (λh=>?_) e4,e5⟩;simp[qh3] at h;subst h;rw[e4] at hg2;cases hg2;exact he rfl
def qK(base:Nat)(w:qg7)(v:qgb)(L:List (List Int)):Prop :=
 ∃vs:List qgb,w.ownsRow base 29 1 v L.length vs/\∀(j:Nat) x l,vs[j]?=some x->L[j]?=some l->qe 0 w.heap.size w x l
theorem qK.kept{base:Nat}{w w':qg7}{v:qgb}{L:List (List Int)}(h:qK base w v L)(hg:w.grownBy w' none):qK base w' v L:=by
 obtain⟨vs,h1,h2⟩:=h;exact⟨vs,Yu h1 hg,λj x l hx hl=>((h2 j x l hx hl).kept hg (by simp)).mono (qg9 _) hg.size⟩
theorem qK.nil(base:Nat)(w:qg7):qK base w (.slice none 0 0) []:=⟨[],qiq _ _ _ _,λj x l hx=>by simp at hx⟩
theorem qK.low{base a6:Nat}{w:qg7}{v:qgb}{L:List (List Int)}(h:qK base w v L)(hb:a6<=base):qK a6 w v L:=by
 obtain⟨vs,h1,h2⟩:=h;exact⟨vs,Yv h1 hb,h2⟩
theorem qK.push{base:Nat}{w w':qg7}{v v' x:qgb}{L:List (List Int)}{l:List Int}{vs:List qgb}(h1:w.ownsRow base 29 1 v L.length vs)(h2:∀(j:Nat) x l,vs[j]?=some x->L[j]?=some l->qe 0 w.heap.size w x l)(hx:qe 0 w.heap.size w x l)(ho:w'.ownsRow base 29 1 v' (L.length+1) (vs++[x]))(hg:w.grownBy w' v.ownBlock):qK base w' v' (L++[l]):=by
 have a6:vs.length=L.length:=by have:=h1.1;simpa using this
 refine⟨vs++[x],by simpa using ho,λj y m hy hm=>?_⟩;by_cases e:j<L.length
 ·rw[qh0 (by omega)] at hy;rw[qh0 e] at hm;exact((h2 j y m hy hm).kept_own h1 (by decide) hg).mono (qg9 _) hg.size
 ·rw[qin (by omega)] at hy hm;have h0:j - L.length=0:=by
   have:=(qgo.1 hm).1;simp at this;omega
  rw[a6,h0] at hy;rw[h0] at hm;simp at hy hm;subst hy hm;exact(hx.kept_own h1 (by decide) hg).mono (qg9 _) hg.size
theorem qK.at{base:Nat}{w:qg7}{v:qgb}{L:List (List Int)}(h:qK base w v L):∃a c,v=.slice a L.length c/\(0<L.length->∃g,a=some ⟨g,0,none⟩/\∀(j:Nat) l,L[j]?=some l->∃x,w.cell? ⟨g,j,none⟩=some x/\qe 0 w.heap.size w x l):=by
 obtain⟨vs,h1,h2⟩:=h;have a6:vs.length=L.length:=by have:=h1.1;simpa using this
 obtain⟨a,c,rfl,h3⟩:=jN h1;refine⟨a,c,rfl,λhp=>?_⟩;obtain⟨g,rfl,-,-,h4⟩:=h3 hp;refine⟨g,rfl,λj l hl=>?_⟩;have hj:=(qgo.1 hl).1;obtain⟨x,hx⟩:∃x,vs[j]?=some x:=⟨_,qge (by omega)⟩;exact⟨x,(h4 j hj).trans hx,h2 j x l hx hl⟩
def jm(hi:Nat)(w:qg7)(v:qgb)(L:List (List Int)):Prop :=
 ∃a c,v=.slice a L.length c/\(0<L.length->∃g,a=some ⟨g,0,none⟩/\g<hi/\(∃cs f,w.heap[g]?=some (.cells cs 29 f))/\∀(j:Nat) l,L[j]?=some l->∃x,w.cell? ⟨g,j,none⟩=some x/\qe 0 hi w x l)
theorem jm.kept{hi:Nat}{w w':qg7}{v:qgb}{L:List (List Int)}{row:Option Nat}(h:jm hi w v L)(hg:w.grownBy w' row)(hr:∀R,row=some R->hi<=R):jm hi w' v L:=by
 obtain⟨a,c,rfl,h1⟩:=h;refine⟨a,c,rfl,λhp=>?_⟩;obtain⟨g,rfl,h2,⟨cs,f,h3⟩,h4⟩:=h1 hp;have hne:some g≠row:=λe=>by have:=hr g e.symm;omega
 refine⟨g,rfl,h2,⟨cs,f,blk hg hne h3⟩,λj l hl=>?_⟩;obtain⟨x,hx,hi⟩:=h4 j l hl;exact⟨x,hg.cell hx hne,hi.kept hg λR e=>.inr (hr R e)⟩
theorem qK.rows{base hi:Nat}{w:qg7}{v:qgb}{L:List (List Int)}(h:qK base w v L)(hhi:w.heap.size<=hi):jm hi w v L:=by
 obtain⟨vs,h1,h2⟩:=h;have a6:vs.length=L.length:=by have:=h1.1;simpa using this
 rcases h1.2 with⟨rfl,h0⟩ | ⟨g,cap,cur,rfl,hb,hg,-⟩
 ·exact⟨none,0,by rw[h0],λhp=>by omega⟩
 ·refine⟨_,_,rfl,λhp=>⟨g,rfl,by have:=(qg8.1 hg).1;omega,⟨_,_,hg⟩,λj l hl=>?_⟩⟩;have hj:=(qgo.1 hl).1;obtain⟨x,hx⟩:∃x,vs[j]?=some x:=⟨_,qge (by omega)⟩;exact⟨x,(h1.cellAt j (by omega)).trans hx,(h2 j x l hx hl).mono (qg9 _) hhi⟩
def JH(p:Par)(l:List Int)(d:Nat):List (List Int):=(qgB d).map λe=>l++[p.mn+(e:Nat)]
def xZ(p:Par):Nat:=(p.mx - p.mn+1).toNat
def stepW(p:Par)(L:List (List Int)):List (List Int):=L.flatMap λl=>JH p l (xZ p)
def qO(ps:List Par):List (List Int):=ps.foldl (λL p=>stepW p L) [[]]
theorem q7k(p:Par)(l:List Int)(d:Nat):JH p l (d+1)=JH p l d++[l++[p.mn+(d:Nat)]]:=by simp[JH,qjz]
theorem q4m(p:Par)(L:List (List Int))(k:Nat)(l:List Int)(h:L[k]?=some l):stepW p (L.take (k+1))=stepW p (L.take k)++JH p l (xZ p):=by
 rw[qhd,h];simp[stepW]
theorem kS(ps:List Par)(k:Nat)(p:Par)(h:ps[k]?=some p):qO (ps.take (k+1))=stepW p (qO (ps.take k)):=by
 rw[qhd,h];simp[qO]
theorem q2E(p:Par)(l:List Int)(d:Nat):(JH p l d).length=d:=by simp[JH]
theorem ZV(p:Par)(h:xZ p<=3):∀L,(stepW p L).length<=3*L.length
 | []=>by simp[stepW]
 | l::L=>by
  have:=ZV p h L;unfold stepW at this ⊢;rw[qiB,qhe,q2E,qgq];omega
theorem Zd(ps:List Par)(h:∀p∈ps,xZ p<=3):∀k,(qO (ps.take k)).length<=3 ^ k
 | 0=>by simp[qO]
 | k+1=>by
  have ih:=Zd ps h k;cases e:ps[k]? with
  | none=>
   rw[qhd,e,Option.toList_none,List.append_nil];exact qgi ih (ql8 (by decide) (by omega))
  | some p=>
   rw[kS ps k p e,Nat.pow_succ];have:=ZV p (h p (qgj e)) (qO (ps.take k));omega
theorem kT(ps:List Par):∀k,k<=ps.length->∀l∈qO (ps.take k),l.length=k
 | 0,_,l,h=>by simp[qO] at h;simp[h]
 | k+1,hk,l,h=>by
  have hp:ps[k]?=some ps[k]:=qge (by omega);rw[kS ps k _ hp] at h;obtain⟨m,hm,h2⟩:=qkd.1 h;obtain⟨d,-,rfl⟩:=qjr.1 h2;have:=kT ps k (by omega) m hm;simp[this]
theorem q5x(lo hi:Nat)(yv:qgb)(ps:List Par)(lim:Int)(w:qg7)(hP:qr lo hi w yv ps)(hhi:hi<=w.heap.size)(h5:ps.length<=5)(hp:∀p∈ps,1<=p.mn/\p.mn<=p.mx/\p.mx<=p.mn+2/\p.mx<=12) :qhf Tp.prog 41 #[.agg #[yv,.int .i64 lim]] w λe w'=>∃v,e=.returned v/\w.grownBy w' none/\qK w.heap.size w' v (qO ps):=by
 obtain⟨yb,yc,rfl,l7,-⟩:=hP.cell;obtain⟨i0,g7,e6,e5,e4⟩:=qiv Tp.info3p;obtain⟨j0,g6,e9,e8,e7⟩:=qiv Tp.info29L;go_enter Tp.x41,Tryz.ntmps41;go_upto_region 2 with(fail);obtain⟨A,hA⟩:∃A,A=w.heap.size:=⟨_,rfl⟩;have hG:w.grownBy ((w.alloc (.cells #[.slice yb ps.length yc,.int .i64 lim] 24)).alloc (.cells #[.slice none 0 0] 29)) none:=(qg6 _ _ none).trans (qg6 _ _ none);have hY:((w.alloc (.cells #[.slice yb ps.length yc,.int .i64 lim] 24)).alloc (.cells #[.slice none 0 0] 29)).heap[A]?=some (.cells #[.slice yb ps.length yc,.int .i64 lim] 24 (0,0)):=qq (by rw[hA];exact qgg w _);have hR:qK A ((w.alloc (.cells #[.slice yb ps.length yc,.int .i64 lim] 24)).alloc (.cells #[.slice none 0 0] 29)) (.slice (some ⟨A+1,0,none⟩) 1 1) [[]]:=by
  have:=qgg (w.alloc (.cells #[.slice yb ps.length yc,.int .i64 lim] 24)) (.cells #[.slice none 0 0] 29);rw[qgk,<- hA] at this;refine⟨[.slice none 0 0],⟨rfl,.inr ⟨A+1,1,_,rfl,by omega,this,qg9 _,by decide,rfl,rfl⟩⟩,λj x l hx hl=>?_⟩;have hj:j=0:=by have:=(qgo.1 hx).1;simp at this;omega
  subst hj;cases hx;cases hl;exact .nil _ _ _
 rw[<- hA];show Code.wp _ _ _ _ ((w.alloc (.cells #[.slice yb ps.length yc,.int .i64 lim] 24)).alloc (.cells #[.slice none 0 0] 29));generalize (w.alloc (.cells #[.slice yb ps.length yc,.int .i64 lim] 24)).alloc (.cells #[.slice none 0 0] 29)=w1 at hG hY hR ⊢;have d5:∀p∈ps,xZ p<=3:=λp h=>by have:=hp p h;unfold xZ;omega
 have k8:=qg4 (hP.kept hG (by simp));have HG:=qg4 hG;have HY:=qg4 hY;have HR:=qg4 hR;have HA:=qg4 hA;have k6:=qg4 hp;have d9:=qg4 d5;have m9:A<=w1.heap.size:=by rw[hA];exact hG.size
 clear hG hY hR hA hP hp d5;go_wp2;go_loopw [3,4] (λov iv wr=>∃k:Nat,iv=.int .i64 k/\k<=ps.length/\w1.grownBy wr none/\qK A wr ov (qO (ps.take k))) (λ_ iv _=>(ps.length - qhj iv).toNat)
 case atStart=>exact⟨0,rfl,by omega,qgn _ _,HR.out⟩
 case round=>
  obtain⟨k,rfl,hk,hG,hO⟩:=hrel;obtain⟨U,rfl⟩:∃U,U=wr:=⟨_,rfl⟩;have y0:=q8 (blk hG (by simp) HY.out) (o:=0) rfl;have a9:=qg4 hG;have HO:=qg4 hO;clear hG hO;by_cases hlt:k<ps.length
  ·obtain⟨p,a8⟩:∃p,ps[k]?=some p:=⟨_,qge hlt⟩;have m3:=k6.out p (qgj a8);have h9:(qO (ps.take k)).length<=81:=qgi (Zd ps d9.out k) (qgi (ql8 (by decide) (show k<=4 by omega)) (by decide));have k7:=qg4 a8;have d8:=qg4 (kS ps k p a8);have d6:=qg4 (kT ps k hk);obtain⟨L,hL⟩:∃L,L=qO (ps.take k):=⟨_,rfl⟩;rw[<- hL] at h9 HO d8 d6;have h8:xZ p<=3:=d9.out p (qgj a8);have m7:(k:Int)<(ps.length:Int):=by omega
   obtain⟨oa,oc,rfl,-⟩:=HO.out.at;clear hL a8;go_wp2;go_loopw [5,6] (λnv mv wi=>∃m:Nat,mv=.int .i64 m/\m<=L.length/\U.grownBy wi none/\qK U.heap.size wi nv (stepW p (L.take m))) (λ_ mv _=>(L.length - qhj mv).toNat)
   case atStart=>exact⟨0,rfl,by omega,qgn _ _,by simpa[stepW] using qK.nil _ _⟩
   case round=>
    obtain⟨m,rfl,hm,hG,hN⟩:=hrel;have b0:=qg4 hG;have HN:=qg4 hN;have y1:=hG.cell y0 (by simp);clear hG hN;by_cases g5:m<L.length
    ·obtain⟨l,hl⟩:∃l,L[m]?=some l:=⟨_,qge g5⟩;have k0:=qg4 (q4m p L m l hl);have k9:(stepW p (L.take m)).length<=243:=qgi (ZV p h8 _) (by simp;omega);have HL:=qg4 hl;have m5:(m:Int)<(L.length:Int):=by omega
     obtain⟨l6,l5,ey,-,b8⟩:=(k8.out.kept a9.out (by simp)).cell;injection ey with ey1 _ ey3;subst ey1 ey3;obtain⟨YB,yo,rfl,-,-,-,a7⟩:=b8 (by intro e;rw[e] at hlt;simp at hlt);obtain⟨p',c3,p0,p1,-,-⟩:=a7 k hlt;rw[k7.out] at c3;cases c3;have P0:=qg4 p0;have P1:=qg4 p1;replace p0:=b0.out.cell p0 (by simp);replace p1:=b0.out.cell p1 (by simp);clear b8 a7 hl;go_wp2;go_loopw [5,7] (λnv dv wj=>∃d:Nat,dv=.int .i64 (p.mn+d)/\d<=xZ p/\U.grownBy wj none/\qK U.heap.size wj nv (stepW p (L.take m)++JH p l d)) (λ_ dv _=>(p.mn+xZ p - qhj dv).toNat)
     case atStart=>exact⟨0,by simp,by omega,b0.out,by simpa[JH] using HN.out⟩
     case round=>
      obtain⟨d,rfl,hd,hG,hN⟩:=hrel;have y2:=hG.cell y0 (by simp);have p0:=hG.cell P0.out (by simp);have p1:=hG.cell P1.out (by simp);have d7:=qg4 hG;obtain⟨vs,hO,hI⟩:=hN;obtain⟨na,nc,rfl,-⟩:=jN hO;by_cases c9:d<xZ p
      ·have hle:p.mn+d<=p.mx:=by unfold xZ at c9;omega
       have g9:=(HO.out.kept hG).at;obtain⟨_,_,er,hr⟩:=g9;injection er with er1 _ er3;subst er1 er3;obtain⟨g,rfl,b6⟩:=hr (by omega);obtain⟨x,hx,b9⟩:=b6 m l HL.out;have m6:l.length<=5:=by have:=d6.out l (qgj HL.out);omega
       have hS:=q7k p l d;obtain⟨M,hM⟩:∃M,M=stepW p (L.take m)++JH p l d:=⟨_,rfl⟩;have m8:M.length<=246:=by rw[hM,qhe,q2E];omega
       have HS:=qg4 (show stepW p (L.take m)++JH p l (d+1)=M++[l++[p.mn+(d:Nat)]] by rw[hS,<- qie,<- hM]);rw[<- hM] at hO hI ⊢;have HI:=qg4 hI;have b7:=qg4 hO;have HX:=qg4 b9;have g8:=hG.size;have l4:=a9.out.size;have n2:U.heap.size<=wr.heap.size:=g8;have m4:1<=p.mn/\p.mn+d<=12:=by omega
       clear hG hI hO b6 hr b9 hM hS;go_wp2_with (first
        | (go_at_call 28;refine(qal 0 _ _ l _ HX.out (qg9 _) (by omega)).mono ?_;rintro e w3 ⟨kv,rfl,hg,hk⟩;obtain⟨ka,kc,rfl,-⟩:=jN hk;have KO:=qg4 hk;have G3:=qg4 hg;have l9:=hg.size;clear hg hk)
        | (at_builtin;(refine qke _ rfl _ _ 29 rfl wr.heap.size 3 i0 _ 1 8 Tp.und29' g7 e6 e5 e4 rfl (by decide) (.slice ka l.length kc) l.length _ rfl (KO.out.alloc _) ⟨w3.heap.size,0,none⟩ 1 1 [.int .i64 (p.mn+d)] rfl rfl (qhx (cs:=#[.int .i64 (p.mn+d)]) (t:=3) (fr:=(0,0)) (qgg w3 _)) (by simp[qid]) (by unfold qk9;omega) (by omega) (by simp;omega) ?_);intro v4 w4 hown a6 _;obtain⟨g4,c4,rfl⟩:=ownsRow_succ hown;have XO:=qg4 (qe.own (l:=l++[p.mn+(d:Nat)]) (by simpa using hown) (by simp;omega));have G4:=qg4 (qj5 (row:=none) (G3.out.trans (qg6 _ _ none)) a6 (λj e=>.inl (KO.out.lt j e).1));have l8:=G4.out.size;clear hown a6)
        | (at_builtin;(refine qke _ rfl _ _ 36 rfl U.heap.size 29 j0 _ 1 24 Tp.und36L g6 e9 e8 e7 rfl (by decide) (.slice na M.length nc) M.length vs rfl ((b7.out.kept G4.out (qk8 _)).alloc _) ⟨w4.heap.size,0,none⟩ 1 1 [.slice (some ⟨g4,0,none⟩) (l.length+1) c4] rfl rfl (qhx (cs:=#[.slice (some ⟨g4,0,none⟩) (l.length+1) c4]) (t:=29) (fr:=(0,0)) (qgg w4 _)) (by simp[qid]) (by unfold qk9;omega) (by omega) (by simp;omega) ?_);intro v5 w5 hown a6 _;have k5:=qg4 (qK.push ((b7.out.kept G4.out (qk8 _)).alloc (.cells #[.slice (some ⟨g4,0,none⟩) (l.length+1) c4] 29)) (λj x q hx hq=>((HI.out j x q hx hq).kept (G4.out.trans (qg6 _ _ none)) (by simp)).mono (qg9 _) (G4.out.trans (qg6 _ _ none)).size) ((by simpa using XO.out.alloc _:qe _ _ _ (.slice (some ⟨g4,0,none⟩) (l.length+1) c4) (l++[p.mn+(d:Nat)])).mono (qh1 _) (by simp)) hown a6);have G5:=qg4 (qj5 (row:=none) (d7.out.trans (G4.out.trans (qg6 _ (.cells #[.slice (some ⟨g4,0,none⟩) (l.length+1) c4] 29) none))) a6 (λj e=>.inl (b7.out.lt j e).1));clear hown a6))
       go_roundw
       case rel=>exact⟨d+1,by simp;omega,by omega,G5.out,by rw[HS.out];exact k5.out⟩
       case measure=>simp[qhj];omega
      ·have c8:d=xZ p:=by omega
       have hle:¬ p.mn+d<=p.mx:=by unfold xZ at c9;omega
       subst c8;have HN:=qg4 (show qK U.heap.size wr (.slice na _ nc) (stepW p (L.take m)++JH p l (xZ p)) from⟨vs,hO,hI⟩);clear hG hI hO;go_wp2;go_roundw
       case rel=>exact⟨m+1,by simp,by omega,d7.out,by rw[k0.out];exact HN.out⟩
       case measure=>simp[qhj];omega
    ·obtain rfl:m=L.length:=by omega
     go_wp2;go_roundw
     case rel=>exact⟨k+1,by simp,by omega,a9.out.trans b0.out,by rw[d8.out];exact(by simpa using HN.out:qK U.heap.size _ _ (stepW p L)).low (by have:=a9.out.size;omega)⟩
     case measure=>simp[qhj];omega
  ·obtain rfl:k=ps.length:=by omega
   go_wp2;go_ret;have h1:=HO.out;rw[qha] at h1;exact⟨_,rfl,HG.out.trans a9.out,h1.low (qj6 HA.out.symm)⟩
def Zr(i:Nat)(L:List (List Int)):List (List Int):=L.map λl=>(i:Int)::l
theorem q7j(i:Nat)(L:List (List Int))(k:Nat)(l:List Int)(h:L[k]?=some l):Zr i (L.take (k+1))=Zr i (L.take k)++[(i:Int)::l]:=by
 rw[qhd,h];simp[Zr]
theorem qK.one(w:qg7):qK w.heap.size (w.alloc (.cells #[.slice none 0 0] 29)) (.slice (some ⟨w.heap.size,0,none⟩) 1 1) [[]]:=by
 refine⟨[.slice none 0 0],⟨rfl,.inr ⟨_,1,_,rfl,qg9 _,qgg w _,qg9 _,by decide,rfl,rfl⟩⟩,λj x l hx hl=>?_⟩;have hj:j=0:=by have:=(qgo.1 hx).1;simp at this;omega
 subst hj;cases hx;cases hl;exact .nil _ _ _
theorem qcj(w:qg7)(x:Int):(w.alloc (.cells #[.int .i64 x] 3)).ownsRow w.heap.size 3 1 (.slice (some ⟨w.heap.size,0,none⟩) 1 1) 1 [.int .i64 x] :=
 ⟨rfl,.inr ⟨_,1,#[.int .i64 x],rfl,qg9 _,qgg w _,qg9 _,by decide,rfl,rfl⟩⟩
theorem qe.news{lo hi:Nat}{w:qg7}{ad:qho}{n c:Nat}{l:List Int}(h:qe lo hi w (.slice (some ad) n c) l):∀j u,(l.map (qgy .i64))[j]?=some u->w.cell? (ad.add j)=some u:=λj u hu=>by
 rw[qj1] at hu;cases hj:l[j]? with
 | none=>rw[hj] at hu;cases hu
 | some x=>
  rw[hj] at hu;cases hu;obtain⟨_,_,e,_,hc⟩:=h;have a6:=(qgo.1 hj).1;obtain⟨B,o,cs,fr,e1,h1,h2,h3,h4⟩:=hc (by rintro rfl;simp at a6);cases e;cases e1;have:=h4 j a6;rw[hj] at this;exact yP (q8 h3 this)
end
section
def yK(n:Nat):Nat->Nat->List (List Int)
 | 0,_=>[[]]
 | k+1,f=>(qmr f (n - k - f)).flatMap λ(i:Nat)=>(yK n k (i+1)).map λl=>(i:Int)::l
def jz(l s:List Int):List Int:=s.map λj=>l[j.toNat]?.getD 0
def JY(l:List Int):List (List Int):=(qgB (l.length+1)).flatMap λk=>(yK l.length k 0).map (jz l)
def qe8(c:List Int):List (List Int):=(qch c.length).map (jz c)
structure SetOk(n:Nat)(c:List Int):Prop where
 eq:qe8 c=QA c
 pw:(QA c).Pairwise (λa c=>xE a c<0)
 pm:∀x∈QA c,x.Perm c
 mem:∀x∈c,0<=x/\x<n
 nd:c.Nodup
 len:c.length<=n
end
section
open Go.RowKit
def Jg(n k f c:Nat):List (List Int):=(qmr f c).flatMap λ(i:Nat)=>Zr i (yK n k (i+1))
theorem q4n(n k f c:Nat):Jg n k f (c+1)=Jg n k f c++Zr (f+c) (yK n k (f+c+1)):=by simp[Jg,List.range'_1_concat]
theorem YY{Y I:Type}(g:Y->List I)(m:Nat)(h:∀a,(g a).length<=m):∀L:List Y,(L.flatMap g).length<=L.length*m
 | []=>by simp
 | a::L=>by
  have h1:=YY g m h L;have h2:=h a;rw[qiB,qhe,qgq,qmq,Nat.one_mul];omega
theorem vp(n:Nat):∀k f,(yK n k f).length<=n ^ k
 | 0,_=>by simp[yK]
 | k+1,f=>by
  have h:=YY (λ(i:Nat)=>(yK n k (i+1)).map λl=>(i:Int)::l) (n ^ k) (λi=>by rw[qjb];exact vp n k (i+1)) (qmr f (n - k - f));rw[qpg] at h;rw[Nat.pow_succ,Nat.mul_comm];exact qgi h (Nat.mul_le_mul_right _ (by omega))
theorem QU(n:Nat):∀k f,∀l∈yK n k f,l.length=k/\∀x∈l,0<=x/\x<n
 | 0,_,l,h=>by simp[yK] at h;simp[h]
 | k+1,f,l,h=>by
  obtain⟨i,hi,h2⟩:=qkd.1 h;obtain⟨m,hm,rfl⟩:=qjr.1 h2;obtain⟨h3,h4⟩:=QU n k (i+1) m hm;have a6:=List.mem_range'_1.1 hi;refine⟨by simp[h3],λx hx=>?_⟩;rcases qhH.1 hx with rfl | hx
  ·omega
  ·exact h4 x hx
theorem qK.lt{base:Nat}{w:qg7}{v:qgb}{L:List (List Int)}(h:qK base w v L)(j:Nat)(e:v.ownBlock=some j):j<w.heap.size:=by
 obtain⟨vs,h1,h2⟩:=h;rcases h1.2 with⟨rfl,-⟩ | ⟨g,cap,cur,rfl,-,hg,-⟩
 ·cases e
 ·simp[qh3] at e;subst e;exact(qg8.1 hg).1
theorem qK.ge{base:Nat}{w:qg7}{v:qgb}{L:List (List Int)}(h:qK base w v L)(j:Nat)(e:v.ownBlock=some j):base<=j:=by
 obtain⟨vs,h1,h2⟩:=h;rcases h1.2 with⟨rfl,-⟩ | ⟨g,cap,cur,rfl,hb,hg,-⟩
 ·cases e
 ·simp[qh3] at e;subst e;exact hb
theorem qK.beside{base b2 n:Nat}{w w':qg7}{v u:qgb}{vs:List qgb}{L:List (List Int)}(h:qK base w v L)(ho:w.ownsRow b2 29 1 u n vs)(hg:w.grownBy w' u.ownBlock)(hne:∀j,u.ownBlock=some j->v.ownBlock≠some j):qK base w' v L:=by
 obtain⟨xs,h1,h2⟩:=h;refine⟨xs,⟨h1.1,h1.2.imp id λ⟨g,cap,cur,e,hb,hh,hr⟩=>⟨g,cap,cur,e,hb,blk hg (λe2=>hne g e2.symm (by rw[e];rfl)) hh,hr⟩⟩,λj x l hx hl=>((h2 j x l hx hl).kept_own ho (by decide) hg).mono (qg9 _) hg.size⟩
theorem YX{u u' v:qgb}{w:qg7}(a6:u'.ownBlock=u.ownBlock\/u'.ownBlock=some w.heap.size)(hne:∀j,u.ownBlock=some j->v.ownBlock≠some j)(hlt:∀j,v.ownBlock=some j->j<w.heap.size):∀j,u'.ownBlock=some j->v.ownBlock≠some j:=λj e e2=>by
 rcases a6 with h | h
 ·exact hne j (h.symm.trans e) e2
 ·have:=hlt j e2;rw[e] at h;cases h;omega
theorem q6a{n k:Nat}(hn:n<=5)(hk:k<=5):n ^ k<=3125:=by
 by_cases h:n=0
 ·subst h;cases k with
  | zero=>decide
  | succ k=>simp
 ·exact qgi (Nat.pow_le_pow_left hn k) (qgi (ql8 (by decide) hk) (by decide))
theorem Jf(n:Nat)(hn:n<=5):∀k:Nat,k<=5->∀f:Nat,f<=100->∀w,qhf Tp.prog 146 #[.int .i64 f,.int .i64 n,.int .i64 k] w λe w'=>∃v,e=.returned v/\w.grownBy w' none/\qK w.heap.size w' v (yK n k f)
 | 0,_,f,_,w=>by
  go_enter Tp.x146,Tryz.ntmps146;go_wp2;go_ret;exact⟨_,rfl,qg6 _ _ none,qK.one w⟩
 | k+1,hk,f,hf,w=>by
  obtain⟨i0,k0,g9,g8,g7⟩:=qiv Tp.info3p;obtain⟨j0,e7,e6,e5,e4⟩:=qiv Tp.info29L;have k9:=qg4 (Jf n hn k (by omega));have m5:((k:Int)+1 == 0)=false:=by rw[beq_eq_false_iff_ne];omega
  have l8:IntKind.i64.wrap (k:Int)=(k:Int):=qgH _ (by omega);have k8:=qg4 (show yK n (k+1) f=Jg n k f (n - k - f) from rfl);rw[show((k+1:Nat):Int)=(k:Int)+1 by omega];go_enter Tp.x146,Tryz.ntmps146;go_wp2;obtain⟨A,hA⟩:∃A,A=w.heap.size:=⟨_,rfl⟩;have HA:=qg4 hA;clear hA;go_loopw [7,8] (λov iv wr=>∃c i:Nat,i=f+c/\iv=.int .i64 i/\c<=n - k - f/\w.grownBy wr none/\qK A wr ov (Jg n k f c)) (λ_ iv _=>(1000 - qhj iv).toNat)
  case atStart=>exact⟨0,f,rfl,rfl,by omega,qgn _ _,by simpa[Jg] using qK.nil _ _⟩
  case round=>
   obtain⟨c,i,hi,rfl,hc,hG,hO⟩:=hrel;have l4:=qg4 hi;have m6:i<=105:=by omega
   have g6:=qg4 hG;have HO:=qg4 hO;have l9:IntKind.i64.wrap ((i:Int)+((k:Int)+1))=(i:Int)+((k:Int)+1):=qgH _ (by omega);have l5:IntKind.i64.wrap ((i:Int)+1)=(i:Int)+1:=qgH _ (by omega);by_cases hlt:c<n - k - f
   ·have h9:(i:Int)+((k:Int)+1)<=(n:Int):=by omega
    obtain⟨L,hL⟩:∃L,L=yK n k (i+1):=⟨_,rfl⟩;have m9:L.length<=3125:=by rw[hL];exact qgi (vp n k _) (q6a hn (by omega))
    have HE:=qg4 (show ∀l∈L,l.length<=5 by rw[hL];exact λl h=>by rw[(QU n k _ l h).1];omega);obtain⟨P,hP⟩:∃P,P=Jg n k f c:=⟨_,rfl⟩;have k5:=qg4 (show Jg n k f (c+1)=P++Zr i L by rw[q4n,hP,hL,hi]);have m7:P.length<=15625:=by
     rw[hP];have h:=YY (λ(i:Nat)=>Zr i (yK n k (i+1))) 3125 (λi=>by rw[Zr,qjb];exact qgi (vp n k _) (q6a hn (by omega))) (qmr f c);rw[qpg] at h;exact qgi h (Nat.mul_le_mul_right _ (show c<=5 by omega))
    rw[<- hP] at HO;have HC:=qg4 (show qhf Tp.prog 146 #[.int .i64 ((i:Int)+1),.int .i64 n,.int .i64 k] wr _ from k9.out (i+1) (by omega) wr);rw[<- hL] at HC;clear hG hO hP hL hi;go_upto_region 8 with(first
     | (go_at_call 146;refine HC.out.mono ?_;rintro e w1 ⟨v,rfl,hg,hr⟩;obtain⟨la,lc,rfl,-⟩:=hr.at;have g5:=qg4 hg;have HR:=qg4 hr;clear hg hr))
    go_wp2;go_loopw [7,10] (λov xv wj=>∃x:Nat,xv=.int .i64 x/\x<=L.length/\w.grownBy wj none/\qK A wj ov (P++Zr i (L.take x))/\qK wr.heap.size wj (.slice la L.length lc) L/\∀j,ov.ownBlock=some j->(qh7 la L.length lc).ownBlock≠some j) (λ_ xv _=>(L.length - qhj xv).toNat)
    case atStart=>exact⟨0,rfl,by omega,g6.out.trans g5.out,by simpa[Zr] using HO.out.kept g5.out,HR.out,λj e e2=>by
     have h1:=HO.out.lt j e;have h2:=HR.out.ge j e2;omega⟩
    case round=>
     obtain⟨x,rfl,hx,hG,hN,e8,e9⟩:=hrel;have b9:=qg4 e8;have c3:=qg4 e9;clear e8 e9;have d8:=qg4 hG;obtain⟨vs,b0,b8⟩:=hN;obtain⟨na,nc,rfl,-⟩:=jN b0;by_cases hxl:x<L.length
     ·obtain⟨l,hl⟩:∃l,L[x]?=some l:=⟨_,qge hxl⟩;obtain⟨_,_,er,hr⟩:=b9.out.at;injection er with er1 _ er3;subst er1 er3;obtain⟨g,rfl,c8⟩:=hr (by omega);obtain⟨y,hy,hyi⟩:=c8 x l hl;obtain⟨yb,yc,rfl,-,-⟩:=hyi.cell;have m4:l.length<=5:=HE.out l (qgj hl);have l7:(x:Int)<(L.length:Int):=by omega
      have HS:=qg4 (q7j i L x l hl);obtain⟨M,hM⟩:∃M,M=P++Zr i (L.take x):=⟨_,rfl⟩;have m8:M.length<=20000:=by rw[hM,qhe,Zr,qjb,qiE];omega
      rw[<- hM] at b0 b8 c3 ⊢;have HS:=qg4 (show P++Zr i (L.take (x+1))=M++[(i:Int)::l] by rw[HS.out,<- qie,<- hM]);have HI:=qg4 b8;have a8:=qg4 b0;have HY:=qg4 hyi;have n2:A<=wr.heap.size:=by have:=HA.out;have:=hG.size;omega
      have l6:=(qg6 wr (.cells #[.int .i64 i] 3) none).cell hy (by simp);have H1:=qg4 (qcj wr i);have k7:=qg4 (qe.kept hyi (qg6 wr (.cells #[.int .i64 i] 3) none) (by simp));have h8:(wr.alloc (.cells #[.int .i64 i] 3)).heap.size=wr.heap.size+1:=qgk _ _;clear hG b8 b0 c8 hr hyi hM hl;rcases yb with _ | ad
      ·obtain rfl:l=[]:=qhG λh=>by obtain⟨_,_,e,_,hc⟩:=HY.out;obtain⟨_,_,_,_,e1,_⟩:=hc h;cases e;cases e1
       have c9:=qgg (wr.alloc (.cells #[.int .i64 i] 3)) (.cells #[.slice (some ⟨wr.heap.size,0,none⟩) 1 1] 29);rw[h8] at c9;have k6:=qg4 c9;clear c9;go_wp2_with (first
        | (at_builtin;(refine qnc _ rfl _ _ 36 rfl A 29 j0 _ 1 24 Tp.und36L e7 e6 e5 e4 rfl (by decide) (.slice na M.length nc) M.length vs rfl ((a8.out.kept (qg6 _ _ none) (qk8 _)).alloc _) ⟨wr.heap.size+1,0,none⟩ 1 1 [.slice (some ⟨wr.heap.size,0,none⟩) 1 1] rfl rfl (qhx (cs:=#[.slice (some ⟨wr.heap.size,0,none⟩) 1 1]) (t:=29) (fr:=(0,0)) k6.out) (by simp[qid]) (by unfold qk9;omega) (by omega) (by simp;omega) ?_);intro v5 w5 hown a6 _ d5;have d9:=qg4 d5;have HW:=qg4 hown;have a9:=qg4 a6;clear hown a6))
       have a7:=(qg6 wr (.cells #[.int .i64 i] 3) none).trans (qg6 _ (.cells #[.slice (some ⟨wr.heap.size,0,none⟩) 1 1] 29) none);have d7:=qK.push ((a8.out.kept (qg6 wr (.cells #[.int .i64 i] 3) none) (qk8 _)).alloc (.cells #[.slice (some ⟨wr.heap.size,0,none⟩) 1 1] 29)) (λj x q hx hq=>((HI.out j x q hx hq).kept a7 (by simp)).mono (qg9 _) a7.size) ((qe.own (l:=[(i:Int)]) (H1.out.alloc (.cells #[.slice (some ⟨wr.heap.size,0,none⟩) 1 1] 29)) (by simp)).mono (qh1 _) (qg9 _)) HW.out a9.out;have d6:=qj5 (row:=none) (d8.out.trans a7) a9.out (λj e=>.inl (by have:=(a8.out.lt j e).1;have:=HA.out;omega));have b6:=(b9.out.kept a7).beside ((a8.out.kept (qg6 wr (.cells #[.int .i64 i] 3) none) (qk8 _)).alloc (.cells #[.slice (some ⟨wr.heap.size,0,none⟩) 1 1] 29)) a9.out c3.out;have b7:=YX d9.out c3.out (λj e=>qgp (b9.out.lt j e) a7.size);go_roundw
       case rel=>exact⟨x+1,by simp,by omega,d6,by rw[HS.out];exact d7,b6,b7⟩
       case measure=>simp[qhj];omega
      ·go_wp2_with (first
        | (at_builtin;(refine qke _ rfl _ _ 29 rfl wr.heap.size 3 i0 _ 1 8 Tp.und29' k0 g9 g8 g7 rfl (by decide) (.slice (some ⟨wr.heap.size,0,none⟩) 1 1) 1 [.int .i64 i] rfl H1.out ad l.length yc (l.map (qgy .i64)) rfl (by simp) k7.out.news (by intro u hu;simp at hu;obtain⟨x,_,rfl⟩:=hu;rfl) (by unfold qk9;omega) (by omega) (by simp) ?_);intro v4 w4 hown a6 _;obtain⟨g4,c4,rfl⟩:∃g4 c4,v4=.slice (some ⟨g4,0,none⟩) (1+l.length) c4:=(by rw[Nat.add_comm] at hown;obtain⟨g,c,e⟩:=ownsRow_succ hown;exact⟨g,c,by rw[e,Nat.add_comm]⟩);have XO:=qg4 (qe.own (l:=(i:Int)::l) hown (by simp;omega));have G4:=qg4 (qj5 (row:=none) (qg6 wr (.cells #[.int .i64 i] 3) none) a6 (λj e=>.inl (H1.out.lt j e).1));have m3:=G4.out.size;clear hown a6)
        | (at_builtin;(refine qnc _ rfl _ _ 36 rfl A 29 j0 _ 1 24 Tp.und36L e7 e6 e5 e4 rfl (by decide) (.slice na M.length nc) M.length vs rfl ((a8.out.kept G4.out (qk8 _)).alloc _) ⟨w4.heap.size,0,none⟩ 1 1 [.slice (some ⟨g4,0,none⟩) (1+l.length) c4] rfl rfl (qhx (cs:=#[.slice (some ⟨g4,0,none⟩) (1+l.length) c4]) (t:=29) (fr:=(0,0)) (qgg w4 _)) (by simp[qid]) (by unfold qk9;omega) (by omega) (by simp;omega) ?_);intro v5 w5 hown a6 _ d5;have d9:=qg4 d5;have HW:=qg4 hown;have a9:=qg4 a6;clear hown a6))
       have a7:=G4.out.trans (qg6 w4 (.cells #[.slice (some ⟨g4,0,none⟩) (1+l.length) c4] 29) none);have d7:=qK.push ((a8.out.kept G4.out (qk8 _)).alloc (.cells #[.slice (some ⟨g4,0,none⟩) (1+l.length) c4] 29)) (λj x q hx hq=>((HI.out j x q hx hq).kept a7 (by simp)).mono (qg9 _) a7.size) ((XO.out.alloc (.cells #[.slice (some ⟨g4,0,none⟩) (1+l.length) c4] 29)).mono (qh1 _) (by simp)) HW.out a9.out;have d6:=qj5 (row:=none) (d8.out.trans a7) a9.out (λj e=>.inl (by have:=(a8.out.lt j e).1;have:=HA.out;omega));have b6:=(b9.out.kept a7).beside ((a8.out.kept G4.out (qk8 _)).alloc (.cells #[.slice (some ⟨g4,0,none⟩) (1+l.length) c4] 29)) a9.out c3.out;have b7:=YX d9.out c3.out (λj e=>qgp (b9.out.lt j e) a7.size);go_roundw
       case rel=>exact⟨x+1,by simp,by omega,d6,by rw[HS.out];exact d7,b6,b7⟩
       case measure=>simp[qhj];omega
     ·obtain rfl:x=L.length:=by omega
      have HN:=qg4 (show qK A wr (.slice na _ nc) (P++Zr i (L.take L.length)) from⟨vs,b0,b8⟩);clear hG b8 b0;go_wp2;go_roundw
      case rel=>exact⟨c+1,i+1,by have:=l4.out;omega,by simp,by omega,d8.out,by rw[k5.out];simpa using HN.out⟩
      case measure=>simp[qhj];omega
   ·obtain rfl:c=n - k - f:=by omega
    have h9:¬ (i:Int)+((k:Int)+1)<=(n:Int):=by omega
    clear hG hO;go_wp2;go_ret;exact⟨_,rfl,g6.out,by rw[k8.out];exact HO.out.low (qj6 HA.out.symm)⟩
theorem q18(n k:Nat)(hn:n<=5)(hk:k<=5)(w:qg7):qhf Tp.prog 97 #[.int .i64 n,.int .i64 k] w λe w'=>∃v,e=.returned v/\w.grownBy w' none/\qK w.heap.size w' v (yK n k 0):=by
 have HC:=qg4 (show qhf Tp.prog 146 #[.int .i64 0,.int .i64 n,.int .i64 k] w _ from Jf n hn k hk 0 (by omega) w);go_enter Tp.x97,Tryz.ntmps97;go_wp2_with (first | (go_at_call 146;refine HC.out.mono ?_;rintro e w1 ⟨v,rfl,hg,hr⟩));go_ret;exact⟨_,rfl,hg,hr⟩
theorem q7n(l s:List Int)(m:Nat)(j:Int)(h:s[m]?=some j):jz l (s.take (m+1))=jz l (s.take m)++[l[j.toNat]?.getD 0]:=by
 rw[qhd,h];simp[jz]
def Qi(l:List Int)(k:Nat):List (List Int):=(qgB k).flatMap λk=>(yK l.length k 0).map (jz l)
theorem JA(l:List Int)(k:Nat):Qi l (k+1)=Qi l k++(yK l.length k 0).map (jz l):=by simp[Qi,qjz]
theorem q5s{l:List Int}(h5:l.length<=5){k:Nat}(hk:k<=6):(Qi l k).length<=k*3125:=by
 induction k with
 | zero=>simp[Qi]
 | succ k ih=>
  rw[JA,qhe,qjb];have h1:=ih (by omega);have h2:=qgi (vp l.length k 0) (q6a h5 (show k<=5 by omega));omega
theorem q5r(lo hi:Nat)(lv:qgb)(l:List Int)(w:qg7)(hI:qe lo hi w lv l)(hhi:hi<=w.heap.size)(h5:l.length<=5) :qhf Tp.prog 42 #[lv] w λe w'=>∃v,e=.returned v/\w.grownBy w' none/\qK w.heap.size w' v (JY l):=by
 obtain⟨i0,m5,l5,l4,k9⟩:=qiv Tp.info3p;obtain⟨j0,m3,l8,l7,l6⟩:=qiv Tp.info29L;obtain⟨lb,lc,rfl,p6,-⟩:=hI.cell;have n6:=qg4 hI;obtain⟨A,hA⟩:∃A,A=w.heap.size:=⟨_,rfl⟩;have HA:=qg4 hA;clear hA hI;go_enter Tp.x42,Tryz.ntmps42;go_wp2;go_loopw [3,4] (λov kv wr=>∃k:Nat,kv=.int .i64 k/\k<=l.length+1/\w.grownBy wr none/\qK A wr ov (Qi l k)) (λ_ kv _=>(l.length+1 - qhj kv).toNat)
 case atStart=>exact⟨0,rfl,by omega,qgn _ _,qK.nil _ _⟩
 case round=>
  obtain⟨k,rfl,hk,hG,hO⟩:=hrel;have k8:=qg4 hG;have HO:=qg4 hO;by_cases hlt:k<=l.length
  ·have l9:(k:Int)<=(l.length:Int):=by omega
   obtain⟨L,hL⟩:∃L,L=yK l.length k 0:=⟨_,rfl⟩;have q1:L.length<=3125:=by rw[hL];exact qgi (vp _ k _) (q6a h5 (by omega))
   have HE:=qg4 (show ∀s∈L,s.length=k/\∀x∈s,0<=x/\x<l.length by rw[hL];exact λs h=>QU _ k _ s h);obtain⟨P,hP⟩:∃P,P=Qi l k:=⟨_,rfl⟩;have n2:=qg4 (show Qi l (k+1)=P++L.map (jz l) by rw[JA,hP,hL]);have p9:P.length<=20000:=by rw[hP];have:=q5s h5 (show k<=6 by omega);omega
   rw[<- hP] at HO;have HC:=qg4 (q18 l.length k h5 (by omega) wr);rw[<- hL] at HC;obtain⟨Bs,d7⟩:∃Bs,Bs=wr.heap.size:=⟨_,rfl⟩;rw[<- d7] at HC;have n7:=qg4 d7;clear hG hO hP hL d7;go_upto_region 6 with(first
    | (go_at_call 97;refine HC.out.mono ?_;rintro e w1 ⟨v,rfl,hg,hr⟩;obtain⟨la,e7,rfl,-⟩:=hr.at;have k6:=qg4 hg;have HR:=qg4 hr;clear hg hr))
   go_wp2;go_loopw [3,6] (λov iv wj=>∃i:Nat,iv=.int .i64 i/\i<=L.length/\w.grownBy wj none/\qK A wj ov (P++(L.take i).map (jz l))/\qK Bs wj (.slice la L.length e7) L/\∀j,ov.ownBlock=some j->(qh7 la L.length e7).ownBlock≠some j) (λ_ iv _=>(L.length - qhj iv).toNat)
   case atStart=>exact⟨0,rfl,by omega,k8.out.trans k6.out,by simpa using HO.out.kept k6.out,HR.out,λj e e2=>by
    have h1:=HO.out.lt j e;have h2:=HR.out.ge j e2;have h3:=n7.out;omega⟩
   case round=>
    obtain⟨i,rfl,hi,hG,hN,h8,k0⟩:=hrel;obtain⟨U,rfl⟩:∃U,U=wr:=⟨_,rfl⟩;have d9:=qg4 h8;have e6:=qg4 k0;have k7:=qg4 hG;obtain⟨vs,a9,b6⟩:=hN;obtain⟨na,nc,rfl,-⟩:=jN a9;clear h8 k0;by_cases m4:i<L.length
    ·obtain⟨s,hs⟩:∃s,L[i]?=some s:=⟨_,qge m4⟩;obtain⟨c9,e8⟩:=HE.out s (qgj hs);have m9:=qg4 e8;have b8:=qg4 c9;have p8:(i:Int)<(L.length:Int):=by omega
     obtain⟨_,_,er,hr⟩:=d9.out.at;injection er with er1 _ er3;subst er1 er3;obtain⟨g,rfl,c3⟩:=hr (by omega);obtain⟨y,hy,hyi⟩:=c3 i s hs;obtain⟨sb,sc,rfl,-,-⟩:=hyi.cell;rw[c9] at hy;have d8:=qg4 (show(L.take (i+1)).map (jz l)=(L.take i).map (jz l)++[jz l s] by rw[qhd,hs];simp);obtain⟨M,hM⟩:∃M,M=P++(L.take i).map (jz l):=⟨_,rfl⟩;have q0:M.length<=30000:=by rw[hM,qhe,qjb,qiE];omega
     rw[<- hM] at a9 b6 e6 ⊢;have d8:=qg4 (show P++(L.take (i+1)).map (jz l)=M++[jz l s] by rw[d8.out,<- qie,<- hM]);have HI:=qg4 b6;have e5:=qg4 a9;have HY:=qg4 hyi;have m7:=qg4 hy;have n4:=qg4 (n6.out.kept hG (by simp));have m6:A<=U.heap.size:=by have:=HA.out;have:=hG.size;omega
     obtain⟨S0,g8⟩:∃S0,S0=U.heap.size:=⟨_,rfl⟩;have k5:=qg4 g8;clear hG b6 a9 c3 hr hyi hM hs e8 hy c9 g8;go_wp2;go_loopw [7,8] (λxv mv wj=>∃m:Nat,mv=.int .i64 m/\m<=k/\U.grownBy wj none/\wj.ownsRow S0 3 1 xv m ((jz l (s.take m)).map (qgy .i64))) (λ_ mv _=>(k - qhj mv).toNat)
     case atStart=>exact⟨0,rfl,by omega,qgn _ _,qiq _ _ _ _⟩
     case round=>
      obtain⟨m,rfl,hm,hG,hX⟩:=hrel;have b9:=qg4 hG;have HX:=qg4 hX;obtain⟨xa,xc,rfl,-⟩:=jN hX;have n9:S0<=wr.heap.size:=by have:=k5.out;have:=hG.size;omega
      have p4:=hG.cell m7.out (by simp);by_cases p5:m<k
      ·obtain⟨j,hj⟩:∃j,s[m]?=some j:=⟨_,qge (by have:=b8.out;omega)⟩;have d5:=m9.out j (qgj hj);have e4:=qg4 (q7n l s m j hj);obtain⟨jn,rfl⟩:∃jn:Nat,j=(jn:Int):=⟨j.toNat,by omega⟩;have hmm:(m:Int)<(k:Int):=by omega
       obtain⟨_,_,es,_,e9⟩:=(HY.out.kept hG (by simp)).cell;injection es with es1 _ es3;subst es1 es3;obtain⟨SB,so,rfl,-,-,-,a7⟩:=e9 (by intro e;rw[e] at hj;simp at hj);have x1:=a7 m (by have:=b8.out;omega);rw[hj] at x1;simp only[qgh] at x1;obtain⟨_,_,el,_,g6⟩:=(n4.out.kept hG (by simp)).cell;injection el with el1 _ el3;subst el1 el3;obtain⟨LB,p3,rfl,-,-,-,a8⟩:=g6 (by intro e;rw[e] at d5;simp at d5;omega);have x2:=a8 jn (by omega);rw[Int.toNat_natCast] at e4;generalize l[jn]?.getD 0=z at x2 e4;have p7:(jn:Int)<(l.length:Int):=by omega
       clear hG hX a7 a8 e9 g6 hj d5;go_wp2_with (first
        | (at_builtin;(refine qke _ rfl _ _ 29 rfl S0 3 i0 _ 1 8 Tp.und29' m5 l5 l4 k9 rfl (by decide) (.slice xa m xc) m _ rfl (HX.out.alloc _) ⟨wr.heap.size,0,none⟩ 1 1 [.int .i64 z] rfl rfl (qhx (cs:=#[.int .i64 z]) (t:=3) (fr:=(0,0)) (qgg wr _)) (by simp[qid]) (by unfold qk9;omega) (by omega) (by simp;omega) ?_);intro v5 w5 hown a6 _;have HW:=qg4 hown;have b7:=qg4 a6;clear hown a6))
       have d6:=qj5 (row:=none) (b9.out.trans (qg6 wr (.cells #[.int .i64 z] 3) none)) b7.out (λj e=>.inl (by have:=(HX.out.lt j e).1;have:=k5.out;omega));go_roundw
       case rel=>exact⟨m+1,by simp,by omega,d6,by rw[e4.out,qij];exact HW.out⟩
       case measure=>simp[qhj];omega
      ·obtain rfl:m=k:=by omega
       have g5:(jz l s).length=m:=by have:=b8.out;simp[jz,this]
       have m8:=qg4 (qe.own (l:=jz l s) (by
        have h:=hX;rw[qmB (by have:=b8.out;omega)] at h;exact h) (by omega))
       have q3:=qg4 (show qh7 xa m xc=.slice xa (jz l s).length xc by rw[g5]);have q2:A<=wr.heap.size:=qgi m6 hG.size;clear hG hX g5;go_wp2_with (first
        | (at_builtin;(refine qnc _ rfl _ _ 36 rfl A 29 j0 _ 1 24 Tp.und36L m3 l8 l7 l6 rfl (by decide) (.slice na M.length nc) M.length vs rfl ((e5.out.kept b9.out (qk8 _)).alloc _) ⟨wr.heap.size,0,none⟩ 1 1 [.slice xa m xc] rfl rfl (qhx (cs:=#[.slice xa m xc]) (t:=29) (fr:=(0,0)) (qgg wr _)) (by simp[qid]) (by unfold qk9;omega) (by omega) (by simp;omega) ?_);intro v5 w5 hown a6 _ g7;have n8:=qg4 g7;have HW:=qg4 hown;have b7:=qg4 a6;clear hown a6 g7))
       have b0:=b9.out.trans (qg6 wr (.cells #[.slice xa m xc] 29) none);have c8:=(e5.out.kept b9.out (qk8 _)).alloc (.cells #[.slice xa m xc] 29);have n3:=qK.push c8 (λj x q hx hq=>((HI.out j x q hx hq).kept b0 (by simp)).mono (qg9 _) b0.size) ((m8.out.alloc (.cells #[.slice xa m xc] 29)).mono (qh1 _) (by simp)) HW.out b7.out;have d6:=qj5 (row:=none) (k7.out.trans b0) b7.out (λj e=>.inl (by have:=(e5.out.lt j e).1;have:=HA.out;omega));have g9:=(d9.out.kept b0).beside c8 b7.out e6.out;have h9:=YX n8.out e6.out (λj e=>qgp (d9.out.lt j e) b0.size);go_roundw
       case rel=>exact⟨i+1,by simp,by omega,d6,by rw[d8.out];exact n3,g9,h9⟩
       case measure=>simp[qhj];omega
    ·obtain rfl:i=L.length:=by omega
     have HN:=qg4 (show qK A U (.slice na _ nc) (P++(L.take L.length).map (jz l)) from⟨vs,a9,b6⟩);clear hG b6 a9;go_wp2;go_roundw
     case rel=>exact⟨k+1,by simp,by omega,k7.out,by rw[n2.out];simpa using HN.out⟩
     case measure=>simp[qhj];omega
  ·obtain rfl:k=l.length+1:=by omega
   have l9:¬ ((l.length+1:Nat):Int)<=(l.length:Int):=by omega
   clear hG hO;go_wp2;go_ret;exact⟨_,rfl,k8.out,HO.out.low (qj6 HA.out.symm)⟩
def zk(l:List Int)(n:Nat):List Int:=(jA n).filter λx=>l.contains x
theorem q1e(l:List Int)(n:Nat):zk l (n+1)=zk l n++if(n:Int)∈l then[(n:Int)] else[]:=by
 unfold zk;rw[q0d,qls];by_cases h:(n:Int)∈l<;>simp[h]
end
section
theorem qcr{l m:List Int}{n:Nat}(h:n<l.length):gw (l++m) n=gw l n:=by unfold gw;rw[qh0 h]
theorem qcs(l:List Int)(x:Int):gw (l++[x]) l.length=x:=by unfold gw;simp
theorem yE(ps:List Par)(hp:∀p∈ps,p.mn<=p.mx):∀k,k<=ps.length->∀ws,ws∈qO (ps.take k)↔ws.length=k/\∀n p,n<k->ps[n]?=some p->p.mn<=gw ws n/\gw ws n<=p.mx
 | 0,_,ws=>by simp[qO]
 | k+1,hk,ws=>by
  have a7:ps[k]?=some ps[k]:=qge (by omega);have hle:=hp _ (qm8 (show k<ps.length by omega));generalize ps[k]=q at a7 hle;rw[kS ps k q a7];constructor
  ·intro h;obtain⟨l,hl,h2⟩:=qkd.1 h;obtain⟨d,hd,rfl⟩:=qjr.1 h2;have hd:=qi4.1 hd;unfold xZ at hd;obtain⟨h3,h4⟩:=(yE ps hp k (by omega) l).1 hl;refine⟨by simp[h3],λn p hn a6=>?_⟩;by_cases e:n<k
   ·rw[qcr (by omega)];exact h4 n p e a6
   ·obtain rfl:n=k:=by omega
    rw[a7] at a6;cases a6;subst h3;rw[qcs];omega
  ·rintro⟨h1,h2⟩;have a8:k<ws.length:=by omega
   have hx:ws[k]?=some ws[k]:=qge a8;have hg:=h2 k q (by omega) a7;have a9:gw ws k=ws[k]:=by unfold gw;rw[hx];rfl
   rw[a9] at hg;refine qkd.2 ⟨ws.take k,(yE ps hp k (by omega) _).2 ⟨by simp;omega,λn p hn a6=>?_⟩,qjr.2 ⟨(ws[k] - q.mn).toNat,qi4.2 (by unfold xZ;omega),?_⟩⟩
   ·have:=h2 n p (by omega) a6;unfold gw at this ⊢
    rwa [qj3 hn]
   ·rw[show q.mn+((ws[k] - q.mn).toNat:Nat)=ws[k] by omega];have h3:=List.take_append_getElem a8;rw[h3,show k+1=ws.length by omega,qha]
theorem Jd{ps:List Par}(hp:∀p∈ps,p.mn<=p.mx){ws:List Int}(h:ws∈qO ps)(i:Nat):pre Par.mn ps ps.length i<=gw ws i/\gw ws i<=pre Par.mx ps ps.length i:=by
 obtain⟨h1,h2⟩:=(yE ps hp ps.length (qg9 _) ws).1 (by rwa [qha]);unfold pre;by_cases hi:i<ps.length
 ·rw[if_pos hi,if_pos hi,qge hi];exact h2 i _ hi (qge hi)
 ·rw[if_neg hi,if_neg hi];unfold gw;rw[qic (by omega)];exact⟨Int.le_refl _,Int.le_refl _⟩
theorem q5w{ps:List Par}(hp:∀p∈ps,p.mn<=p.mx):ps.map Par.mn∈qO ps:=by
 have:=(yE ps hp ps.length (qg9 _) (ps.map Par.mn)).2 ⟨by simp,λn p hn h=>by
  have hm:=hp p (qgj h);unfold gw;rw[qj1,h];exact⟨Int.le_refl _,hm⟩⟩
 rwa [qha] at this
theorem KQ{g g':Nat->Int}:∀t:List Int,(∀x∈t,g x.toNat=g' x.toNat)->tot (t.map λx=>g x.toNat)=tot (t.map λx=>g' x.toNat)
 | [],_=>rfl
 | a::t,h=>by
  simp only[qkm,tot];rw[h a (by simp),KQ t λx hx=>h x (by simp[hx])]
def qck:List Int->Bool
 | []=>true
 | x::l=>!l.contains x && qck l
theorem q6e:∀{l:List Int},l.Nodup->qck l=true
 | [],_=>rfl
 | x::l,h=>by
  obtain⟨h1,h2⟩:=List.nodup_cons.1 h;simp[qck,h1,q6e h2]
theorem YJ(n:Nat):∀l:List Int,(∀x∈l,0<=x/\x<n)->l∈YK n l.length
 | [],_=>by simp[YK]
 | x::l,h=>by
  have hx:=h x (by simp);refine qkd.2 ⟨x.toNat,qi4.2 (by omega),qjr.2 ⟨l,YJ n l λy hy=>h y (by simp[hy]),?_⟩⟩;rw[show((x.toNat:Nat):Int)=x by omega]
def qf0(n:Nat)(l:List Int):Bool:=j4 l.length l == zk l n && JY (zk l n) == j3 (zk l n) 0 && (j3 (zk l n) 0).all (λc=>c.all (λx=>decide (0<=x/\x<n)) && decide (c.length<=n)) && (j3 (zk l n) 0).contains (zk l n) && l.all (λx=>(zk l n).contains x) && decide ((j3 (zk l n) 0).length<=16) && (zk l n).all (λx=>decide (0<=x/\x<n)) && decide ((zk l n).length<=n)
def wghA(n k:Nat):Bool:=(YK n k).all λl=>!qck l || qf0 n l
theorem qbx:∀n k,n<=4->k<=n->wghA n k=true
 | 0,0,_,_=>by kernel_rfl
 | 1,0,_,_=>by kernel_rfl
 | 1,1,_,_=>by kernel_rfl
 | 2,0,_,_=>by kernel_rfl
 | 2,1,_,_=>by kernel_rfl
 | 2,2,_,_=>by kernel_rfl
 | 3,0,_,_=>by kernel_rfl
 | 3,1,_,_=>by kernel_rfl
 | 3,2,_,_=>by kernel_rfl
 | 3,3,_,_=>by kernel_rfl
 | 4,0,_,_=>by kernel_rfl
 | 4,1,_,_=>by kernel_rfl
 | 4,2,_,_=>by kernel_rfl
 | 4,3,_,_=>by kernel_rfl
 | 4,4,_,_=>by kernel_rfl
 | 0,k+1,_,h=>by omega
 | 1,k+2,_,h=>by omega
 | 2,k+3,_,h=>by omega
 | 3,k+4,_,h=>by omega
 | 4,k+5,_,h=>by omega
 | n+5,_,h,_=>by omega
structure qfw(n:Nat)(l ws:List Int):Prop where
 srt:j4 l.length l=ws
 sub:JY ws=j3 ws 0
 mem:∀c∈j3 ws 0,(∀x∈c,0<=x/\x<n)/\c.length<=n
 all:ws∈j3 ws 0
 has:∀x∈l,x∈ws
 len:(j3 ws 0).length<=16
 bd:∀x∈ws,0<=x/\x<n
 wl:ws.length<=n
theorem qdx{n:Nat}(hn:n<=4){l:List Int}(hl:∀x∈l,0<=x/\x<n)(hd:l.Nodup):qfw n l (zk l n):=by
 have h:=qh9.1 (qbx n l.length hn (Qr n l hd hl)) l (YJ n l hl);rw[q6e hd] at h;simp only[qld,Bool.false_or,qf0,qgv,beq_iff_eq,decide_eq_true_eq,qh9,List.contains_iff_mem] at h;obtain⟨⟨⟨⟨⟨⟨⟨h1,h2⟩,h3⟩,h4⟩,h5⟩,h6⟩,h7⟩,h8⟩:=h;exact⟨h1,h2,h3,h4,h5,h6,h7,h8⟩
theorem q09(g:Nat->Int)(n:Nat)(v:Int):Qz g n v n=v:=by simp[Qz]
theorem q67(g:Nat->Int)(n:Nat)(v:Int){d:Nat}(h:d≠n):Qz g n v d=g d:=by simp[Qz,h]
theorem q43{ps:List Par}{wl:List Int}(hp:∀p∈ps,p.mn<=p.mx)(hw:∀y∈wl,0<=y/\y<ps.length):∀k,k<=wl.length ->(∀g∈jq ps (wl.take k),∀d:Nat,(d:Int)∈wl.take k->∀p,ps[d]?=some p->p.mn<=g d/\g d<=p.mx) /\(∀f:Nat->Int,(∀d:Nat,(d:Int)∈wl->∀p,ps[d]?=some p->p.mn<=f d/\f d<=p.mx)->∃g∈jq ps (wl.take k),∀d:Nat,(d:Int)∈wl.take k->g d=f d)
 | 0,_=>⟨λg _ d hd=>by simp at hd,λf _=>⟨λ_=>0,by simp[jq],λd hd=>by simp at hd⟩⟩
 | k+1,hk=>by
  obtain⟨h1,h2⟩:=q43 hp hw k (by omega);have hx:wl[k]?=some wl[k]:=qge (by omega);have a8:=hw _ (qm8 (show k<wl.length by omega));generalize wl[k]=x at hx a8;obtain⟨m,rfl⟩:∃m:Nat,x=(m:Int):=⟨x.toNat,by omega⟩;obtain⟨q,hq⟩:∃q,ps[m]?=some q:=⟨_,qge (by omega)⟩;have hc:=q0D ps wl k m q hx (by simpa using hq);rw[Int.toNat_natCast] at hc;have ht:wl.take (k+1)=wl.take k++[(m:Int)]:=by rw[qhd,hx];rfl
  have a9:=hp q (qgj hq);have mem:∀d:Nat,(d:Int)∈wl.take (k+1)->d≠m->(d:Int)∈wl.take k:=λd hd hne=>by
   rw[ht] at hd;rcases qiD.1 hd with h | h
   ·exact h
   ·exact absurd (by have:=qj2.1 h;omega) hne
  rw[hc];refine⟨λg hg d hd p a6=>?_,λf hf=>?_⟩
  ·obtain⟨g0,a7,h3⟩:=qkd.1 hg;obtain⟨e,he,rfl⟩:=qjr.1 h3;have he:=qi4.1 he;unfold kOf at he;by_cases e2:d=m
   ·subst e2;rw[hq] at a6;cases a6;rw[q09];omega
   ·rw[q67 _ _ _ e2];exact h1 g0 a7 d (mem d hd e2) p a6
  ·obtain⟨g0,a7,h3⟩:=h2 f hf;have hb:=hf m (qgj hx) q hq;refine⟨Qz g0 m (f m),qkd.2 ⟨g0,a7,qjr.2 ⟨(f m - q.mn).toNat,qi4.2 (by unfold kOf;omega),?_⟩⟩,λd hd=>?_⟩
   ·rw[show q.mn+((f m - q.mn).toNat:Nat)=f m by omega]
   ·by_cases e2:d=m
    ·subst e2;rw[q09]
    ·rw[q67 _ _ _ e2];exact h3 d (mem d hd e2)
def q0H(ps:List Par)(l c:List Int):Prop:=∀x∈qO ps,∀y∈qO ps,(∀d:Nat,(d:Int)∈c->gw x d=gw y d)->qp ps (gw x) l=qp ps (gw y) l
theorem qfa{f:Par->Int}{ps:List Par}{m:Nat}{p:Par}(h:ps[m]?=some p):pre f ps ps.length m=f p:=by
 unfold pre;rw[if_pos (qgo.1 h).1,h]
theorem qaq(n:Nat)(f:Nat->Int)(hf:∀d,n<=d->f d=0):gw ((qgB n).map f)=f:=by
 funext d
 unfold gw;by_cases h:d<n
 ·simp[h]
 ·rw[qic (by simp;omega)];exact(hf d (by omega)).symm
theorem Ye{ps:List Par}(hp:∀p∈ps,p.mn<=p.mx){l c:List Int}(hc:∀y∈c,0<=y/\y<ps.length):jI ps l c=true↔q0H ps l c:=by
 obtain⟨m1,m2⟩:=q43 hp hc c.length (qg9 _);rw[qha] at m1 m2;have b7:∀(g h:Nat->Int),(∀d,ps.length<=d->h d=0)->∀d,ps.length<=d->ovr g h c c.length d=0:=λg h hh d hd=>by
  unfold ovr;rw[qha,if_neg (λhm=>by have:=hc _ hm;omega)];exact hh d hd
 have b6:∀(f:Par->Int) d,ps.length<=d->pre f ps ps.length d=0:=λf d hd=>by unfold pre;rw[if_neg (by omega)]
 have mk:∀(f:Par->Int),(∀p∈ps,p.mn<=f p/\f p<=p.mx)->∀g∈jq ps c,(qgB ps.length).map (ovr g (pre f ps ps.length) c c.length)∈qO ps/\gw ((qgB ps.length).map (ovr g (pre f ps ps.length) c c.length))=ovr g (pre f ps ps.length) c c.length:=λf hf g hg=>by
  have e:=qaq ps.length (ovr g (pre f ps ps.length) c c.length) (b7 g _ (b6 f));refine⟨?_,e⟩;have:=(yE ps hp ps.length (qg9 _) ((qgB ps.length).map (ovr g (pre f ps ps.length) c c.length))).2 ⟨by simp,λd p hd a6=>by
   rw[e];unfold ovr;rw[qha];by_cases hm:(d:Int)∈c
   ·rw[if_pos hm];exact m1 g hg d hm p a6
   ·rw[if_neg hm,qfa a6];exact hf p (qgj a6)⟩
  rwa [qha] at this
 have a9:∀x∈qO ps,∀y∈qO ps,(∀d:Nat,(d:Int)∈c->gw x d=gw y d)->qp ps (gw x) l=true->qp ps (gw y) l=false->Qf ps l c:=λx hx y hy hxy h1 h2=>by
  obtain⟨g,hg,b0⟩:=m2 (gw x) (λd hd p a6=>by
   have h:=(yE ps hp ps.length (qg9 _) x).1 (by rwa [qha]);exact h.2 d p (by have:=hc _ hd;omega) a6)
  obtain⟨i,hi⟩:=qkG.1 hg;refine⟨i,(qgo.1 hi).1,?_⟩;have hC:ZK ps c i=g:=by funext d;unfold ZK;rw[hi];rfl
  rw[hC,qgv];refine⟨Zj (λd=>?_) h1,?_⟩
  ·unfold ovr;rw[qha];by_cases hm:(d:Int)∈c
   ·rw[if_pos hm,b0 d hm];exact Int.le_refl _
   ·rw[if_neg hm];exact(Jd hp hx d).1
  ·rw[qj0];cases e:qp ps (ovr g (pre Par.mx ps ps.length) c c.length) l with
   | false=>rfl
   | true=>
    have:=Zj (g:=gw y) (λd=>by
     unfold ovr;rw[qha];by_cases hm:(d:Int)∈c
     ·rw[if_pos hm,b0 d hm,hxy d hm];exact Int.le_refl _
     ·rw[if_neg hm];exact(Jd hp hy d).2) e
    rw[h2] at this;cases this
 have hs:jI ps l c=true↔¬ Qf ps l c:=by unfold jI;simp
 rw[hs];constructor
 ·intro hn x hx y hy hxy;cases h1:qp ps (gw x) l<;>cases h2:qp ps (gw y) l
  ·rfl
  ·exact absurd (a9 y hy x hx (λd hd=>(hxy d hd).symm) h2 h1) hn
  ·exact absurd (a9 x hx y hy hxy h1 h2) hn
  ·rfl
 ·rintro h ⟨i,hi,hd⟩;have hg:(jq ps c)[i]?=some ((jq ps c)[i]'hi):=qge hi;have hC:ZK ps c i=(jq ps c)[i]'hi:=by funext d;unfold ZK;rw[hg];rfl
  have a8:=qgj hg;rw[hC] at hd;generalize (jq ps c)[i]'hi=g at hd a8;obtain⟨a1,a2⟩:=mk Par.mn (λp a7=>⟨Int.le_refl _,hp p a7⟩) g a8;obtain⟨b1,b2⟩:=mk Par.mx (λp a7=>⟨hp p a7,Int.le_refl _⟩) g a8;have e:=h _ a1 _ b1 (λd hd=>by rw[a2,b2];unfold ovr;rw[qha,if_pos hd,if_pos hd]);rw[a2,b2] at e;rw[qgv,e] at hd;simp at hd
theorem q97{ps:List Par}{l ws:List Int}(hl:∀x∈l,0<=x/\x<ps.length)(hw:∀x∈l,x∈ws):q0H ps l ws:=λx _ y _ h=>by
 have hk:∀k,yz ps (gw x) l k=yz ps (gw y) l k:=λk=>by
  unfold yz;have e:loadAt (gw x) l k=loadAt (gw y) l k:=KQ _ λz hz=>by
   have hz:=List.mem_of_mem_drop hz;have:=hl z hz;exact h z.toNat (by rw[show((z.toNat:Nat):Int)=z by omega];exact hw z hz)
  rw[e]
 show((qgB l.length).all λk=>yz ps (gw x) l k)=((qgB l.length).all λk=>yz ps (gw y) l k);simp only[hk]
theorem Y9(p:List Int->Bool):∀(L:List (List Int)) (o:List Int),(∃c∈L,p c=true)->∃c,L.find? p=some c/\zU p L o=(true,c)
 | [],_,h=>by obtain⟨c,hc,_⟩:=h;cases hc
 | a::L,o,h=>by
  rw[List.find?_cons];unfold zU;cases e:p a with
  | true=>exact⟨a,rfl,rfl⟩
  | false=>
   obtain⟨c,hc,h2⟩:=h;refine Y9 p L a ⟨c,(qhH.1 hc).resolve_left (λhe=>by rw[he,e] at h2;cases h2),h2⟩
end
section
open Go Go.RowKit Go.Co Go.Sim Go.Conc Go.ConcN
theorem qy.keptR{w w':qg7}{v:qgb}{r:Option Nat}(h:qy w v)(hg:w.grownBy w' r)(hr:∀ad n c,v=.slice (some ad) n c->some ad.block≠r):qy w' v:=λad n c e=>by
 obtain⟨cs,e1,f,h1,h2⟩:=h ad n c e;exact⟨cs,e1,f,blk hg (hr ad n c e) h1,h2⟩
theorem qy.lt{w:qg7}{v:qgb}(h:qy w v){ad:qho}{n c:Nat}(e:v=.slice (some ad) n c):ad.block<w.heap.size:=by
 obtain⟨cs,e1,f,h1,-⟩:=h ad n c e;exact(qg8.1 h1).1
theorem qy.notin{w:qg7}{v:qgb}{b g:Nat}(h:qy w v)(ht:qS w b g):∀ad n c,v=.slice (some ad) n c->some ad.block≠some b:=λad n c e e2=>by
 obtain⟨cs,e1,f,h1,h2⟩:=h ad n c e;cases e2;obtain⟨b1,len,cap,n1,s1,_,a6,_⟩:=ht;rw[a6] at h1;cases h1;obtain⟨k,m,e3⟩:=h2 0 _ rfl;cases e3
structure YL(ps:List Par)(lim:Int)(l:List Int)(yb:Option qho)(yc:Nat)(lb:Option qho)(lc X:Nat)(q:qg7):Prop where
 x:q.heap[X]?=some (.cells #[.slice yb ps.length yc,.int .i64 lim] 24 (0,0))
 p:qr 0 q.heap.size q (.slice yb ps.length yc) ps
 m:qe 0 q.heap.size q (.slice lb l.length lc) l
 y:qy q (.slice yb ps.length yc)
 i:qy q (.slice lb l.length lc)
theorem YL.kept{ps:List Par}{lim:Int}{l:List Int}{yb:Option qho}{yc:Nat}{lb:Option qho}{lc X:Nat}{u q:qg7}{T:Nat->qih->Nat}(h:YL ps lim l yb yc lb lc X u)(hg:(u.tp T).grownBy q none):YL ps lim l yb yc lb lc X q :=
 ⟨blk (w:=u.tp T) hg (by simp) h.x,(qr.kept (w:=u.tp T) h.p hg (by simp)).mono (qg9 _) hg.size,h.m.kn hg,qy.keptR (w:=u.tp T) h.y hg (by simp),qy.keptR (w:=u.tp T) h.i hg (by simp)⟩
theorem jm.up{h1 h2:Nat}{w:qg7}{v:qgb}{L:List (List Int)}(h:jm h1 w v L)(hh:h1<=h2):jm h2 w v L:=by
 obtain⟨a,c,rfl,h3⟩:=h;refine⟨a,c,rfl,λhp=>?_⟩;obtain⟨g,rfl,h4,h5,h6⟩:=h3 hp;refine⟨g,rfl,qgp h4 hh,h5,λj l hl=>?_⟩;obtain⟨x,hx,hi⟩:=h6 j l hl;exact⟨x,hx,hi.mono (qg9 _) hh⟩
structure q4a(all lists:List (List Int))(ps:List Par)(l:List Int)(AB ac LB lc C:Nat)(gb:Option qho)(gc:Nat)(o:List Int)(u:qg7):Prop where
 al:jm u.heap.size u (.slice (some ⟨AB,0,none⟩) all.length ac) all
 li:jm u.heap.size u (.slice (some ⟨LB,0,none⟩) lists.length lc) lists
 fi:jF u C all.length λj=>qp ps (gw (all[j]?.getD [])) l
 go:qe 0 u.heap.size u (.slice gb o.length gc) o
theorem q4a.kept{all lists:List (List Int)}{ps:List Par}{l:List Int}{AB ac LB lc C:Nat}{gb:Option qho}{gc:Nat}{o:List Int}{u w:qg7}(h:q4a all lists ps l AB ac LB lc C gb gc o u)(hg:u.grownBy w none):q4a all lists ps l AB ac LB lc C gb gc o w :=
 ⟨(h.al.kept hg (by simp)).up hg.size,(h.li.kept hg (by simp)).up hg.size,h.fi.kept hg (by simp),(h.go.kept hg (by simp)).mono (qg9 _) hg.size⟩
def kA(ps:List Par)(l:List Int)(all:List (List Int))(c:List Int)(a b:Nat):Bool:=!(c.all λj=>gw (all[a]?.getD []) j.toNat == gw (all[b]?.getD []) j.toNat) || qp ps (gw (all[a]?.getD [])) l == qp ps (gw (all[b]?.getD [])) l
theorem q7p{ps:List Par}{l c:List Int}(hc:∀y∈c,0<=y)(h:∀a,a<(qO ps).length->∀b,b<a->kA ps l (qO ps) c a b=true):q0H ps l c:=λx hx y hy hxy=>by
 obtain⟨a,ha⟩:=qkG.1 hx;obtain⟨b,hb⟩:=qkG.1 hy;have la:=(qgo.1 ha).1;have lb:=(qgo.1 hb).1;have key:∀a b x y,(qO ps)[a]?=some x->(qO ps)[b]?=some y->a<(qO ps).length->b<a->(∀d:Nat,(d:Int)∈c->gw x d=gw y d)->qp ps (gw x) l=qp ps (gw y) l:=λa b x y ha hb la a6 hxy=>by
  have h1:=h a la b a6;unfold kA at h1;rw[ha,hb] at h1;simp only[qgh] at h1;rw[show(c.all λj=>gw x j.toNat == gw y j.toNat)=true from qh9.2 λj hj=>by
   have:=hc j hj;rw[hxy j.toNat (by rw[show((j.toNat:Nat):Int)=j by omega];exact hj)];simp] at h1
  simpa using h1
 rcases Nat.lt_trichotomy b a with h1 | h1 | h1
 ·exact key a b x y ha hb la h1 hxy
 ·subst h1;rw[ha] at hb;cases hb;rfl
 ·exact(key b a y x hb ha lb h1 λd hd=>(hxy d hd).symm).symm
theorem qa1{ps:List Par}{l c:List Int}{a b:Nat}(la:a<(qO ps).length)(hb:b<a)(h:kA ps l (qO ps) c a b=false):¬ q0H ps l c:=λhs=>by
 obtain⟨x,hx⟩:∃x,(qO ps)[a]?=some x:=⟨_,qge la⟩;obtain⟨y,hy⟩:∃y,(qO ps)[b]?=some y:=⟨_,qge (show b<(qO ps).length by omega)⟩;unfold kA at h;rw[hx,hy] at h;simp only[qgh,Bool.or_eq_false_iff,Bool.not_eq_false',qh9,beq_iff_eq] at h;have:=hs x (qgj hx) y (qgj hy) λd hd=>by have:=h.1 d hd;simpa using this
 rw[this] at h;simp at h
theorem arrZ(z:Array qgb)(h:z.size=182):∃t:Nat->qgb,(∀(j:Nat) (v:qgb),z[j]?=some v->t j=v)/\z=((qgB 182).map t).toArray:=by
 have e:=xm z;rw[h] at e;exact⟨λj=>z[j]?.getD qgd,λj v hv=>by simp[hv],e⟩
theorem qb0[JunkSet]{f:qhs}{Post:qgb->qg7->Prop}{W:qg7}(D:Two Tp.prog qgr){b:qgm}{cs:List qgm}{k:List qkl}{c:qiw}(hb:Bot f cs)(hs:Tp.prog.funcs[b.fn]?=Tryz.prog.funcs[b.fn]?)(a6:Nat->Act->qg7->Prop)(h:∀n a u,a6 n a u->(∀n' a' u',n'<n->a6 n' a' u'->EL Tp.prog qgr f Post W (G (b.at a' (.inLoop c::k)) cs) u')->EL Tp.prog qgr f Post W (G (b.at a (.code c::.inLoop c::k)) cs) u){n:Nat}{a:Act}{u:qg7}(h0:a6 n a u) :EL Tp.prog qgr f Post W (G (b.at a (.code (.loop c)::k)) cs) u :=
 have key:∀n a u,a6 n a u->EL Tp.prog qgr f Post W (G (b.at a (.code c::.inLoop c::k)) cs) u:=λn=>by
  induction n using qme with
  | _ n ih=>exact λa u hi=>h n a u hi λn' a' u' hlt a7=>EL.inLoop D hb hs (ih n' hlt a' u' a7)
 EL.loop D hb hs (key n a u h0)
section
variable[J:JunkSet]{Post:qgb->qg7->Prop}{W:qg7}
theorem el6(D:Two Tp.prog qgr)(hok:JunkSet.okf 137)(A0:∀i,¬ JunkSet.jk i)(hin:Tp.prog.inits.idxOf? 6=none)(A6:Tryz.prog.inits.idxOf? 6=none){base:Option qho}{len cap:Nat}{wq:qg7}(hl:(len:Int)<=9223372036854775807)(hr:0<len->∃lb lo,base=some ⟨lb,lo,none⟩/\∀i,i<len->∃x,wq.cell? ⟨lb,lo+i,none⟩=some (.int .i64 x))(h0:qT wq 0)(r4:∀w,(∀j,j<W.heap.size->w.heap[j]?=W.heap[j]?)->w.os=W.os->w.output=W.output->W.heap.size<=w.heap.size->Post (.bool true) w) :EL Tp.prog qgr 6 Post W (G (qh8 Tp.prog 6 #[.slice base len cap] .normal) [qj 6]) wq:=by
 have hs:Tp.prog.funcs[(qgA 6).fn]?=Tryz.prog.funcs[(qgA 6).fn]?:=z6 6 (by decide);have hb:Bot 6 [qj 6]:=⟨[],rfl⟩;rw[q7A (fn:=qnk) (c0:=Tryz.f6.body.getD .skip) Tp.x6 (by kernel_rfl)];simp only[qnk,qgh];walk_nrm;refine EL.sp D hb hs λT=>?_;go_wp2;refine EL.tape (wq:=wq) ?_ T;refine EL.sp D hb hs λT=>?_;have HR:=qg4 hr;clear hr;go_wp2_with (first
  | (go_at_call 24;refine(q57 base len cap (wq.tp T) hl HR.out).mono ?_;rintro e w2 ⟨rfl,hg2,x3⟩;have G2:=qg4 hg2;have T2:=qg4 x3;clear hg2 x3))
 obtain⟨b,t3⟩:∃b,b=(wq.tp T).heap.size:=⟨_,rfl⟩;rw[<- t3] at T2 ⊢;have D3:=qg4 (show b=wq.heap.size from t3);refine j5 (λu=>(wq.tp u.tape).grownBy u none/\qS u b 0) ⟨tpg G2.out,T2.out⟩ λu1 hF=>?_;obtain⟨g1,t1⟩:=hF;clear G2 T2 t3 HR;refine EL.sp D hb hs λT=>?_;go_wp2_with (first
  | (go_at_call 33;refine(q4d b 0 4 (u1.tp T) t1 (by omega) (by omega)).mono ?_;rintro e w2 ⟨ps,lim,yv,v8,rfl,z0,r5,A7⟩;have N2:=qg4 z0;have P2:=qg4 r5;have YD:=qg4 v8;have Y2:=qg4 (show qy w2 yv from A7);obtain⟨yb,yc,rfl,-,-⟩:=r5.cell;clear z0 r5 v8 A7))
 obtain⟨X,hX⟩:∃X,X=w2.heap.size:=⟨_,rfl⟩;rw[<- hX];have B4:b<u1.heap.size:=t1.lt;have a9:=qg6 w2 (.cells #[.slice yb ps.length yc,.int .i64 lim] 24) none;refine j5 (λq=>(wq.tp q.tape).grownBy q none/\qS q b 31/\q.heap[X]?=some (.cells #[.slice yb ps.length yc,.int .i64 lim] 24 (0,0))/\qr u1.heap.size q.heap.size q (.slice yb ps.length yc) ps/\qy q (.slice yb ps.length yc)) ⟨gb (q80 g1 (tpg N2.out.1) (qj6 D3.out.symm)) (tpg (T:=w2.tape) a9),N2.out.2.alloc _,by rw[hX];exact qgg _ _,(P2.out.alloc _).mono (qg9 _) a9.size,Y2.out.keptR a9 (by simp)⟩ λu2 hF=>?_;obtain⟨g2,t2,x2,p2,y2⟩:=hF;have p4:=YD.out.yok (by decide);have c3:=qg4 p4;have x7:∀p∈ps,1<=p.mn/\p.mn<=p.mx/\p.mx<=p.mn+2/\p.mx<=12:=λp hp=>by have q:=YD.out.each p hp;exact⟨q.a,q.c,q.d,by have:=q.b;have:=q.d;omega⟩
 have B9:ps.length<=4:=YD.out.len;have m7:=qg4 x7;clear a9 N2 P2 hX g1 t1 YD p4 x7 Y2;refine EL.sp D hb hs λT=>?_;have c0:=q8 (w:=u2.tp T) x2 (o:=0) rfl;have c1:=q8 (w:=u2.tp T) x2 (o:=1) rfl;go_wp2_with (first
  | (go_at_call 34;refine(q5d b 31 u1.heap.size _ ps lim (u2.tp T) t2 (by omega) p2 B4 c3.out.len (by have:=c3.out.l1;omega) (by have:=c3.out.l2;omega) (λp hp=>by have:=c3.out.each p hp;omega)).mono ?_;rintro e w3 ⟨l,lv,x5,rfl,x8,s1,s9,p7⟩;have N3:=qg4 x8;have I3:=qg4 s1;have PK:=qg4 x5;have L3:=qg4 (show qy w3 lv from p7);obtain⟨lb,lc,rfl,-,-⟩:=s1.cell;clear x8 s1 x5 s9 p7))
 have B5:b≠X:=λe=>by
  have h:=x2;obtain⟨_,_,_,_,_,_,E5,_⟩:=t2;rw[<- e,E5] at h;injection h with h;injection h with _ h _;exact absurd h (by decide)
 refine j5 (λq=>(wq.tp q.tape).grownBy q none/\YL ps lim l yb yc lb lc X q) ⟨q80 g2 (tpg N3.out.1) (qj6 D3.out.symm),blk (w:=u2.tp T) N3.out.1 (by simpa using B5.symm) x2,(qr.kept (w:=u2.tp T) p2 N3.out.1 (λR e=>by cases e;exact .inl B4)).mono (qh1 _) N3.out.1.size,I3.out.mono (qh1 _) (qg9 _),qy.keptR (w:=u2.tp T) y2 N3.out.1 (qy.notin (w:=u2.tp T) y2 t2),L3.out⟩ λu3 hF=>?_;obtain⟨g3,f3⟩:=hF;have G7:l.length<=100:=PK.out.len;have q5:=qdx B9 PK.out.ok PK.out.nd;have b9:=qg4 q5;have hwl:=q5.wl;clear N3 I3 L3 g2 t2 x2 p2 y2 c0 c1 B5 q5;refine EL.sp D hb hs λT=>?_;go_wp2;refine EL.tape (wq:=u3) ?_ T;refine EL.sp D hb hs λT=>?_;obtain⟨i0,k6,D8,D7,D6⟩:=qiv Tp.info3p;have XR:=qg4 λ(w:qg7) (h:(u3.tp T).grownBy w none)=>q8 (blk h (by simp) (show(u3.tp T).heap[X]?=_ from f3.x)) (o:=0) rfl;have LR:=qg4 λ(w:qg7) (h:(u3.tp T).grownBy w none)=>(qe.kept (w:=u3.tp T) f3.m h (by simp):qe 0 u3.heap.size w (.slice lb l.length lc) l);obtain⟨A,hA⟩:∃A,A=(u3.tp T).heap.size:=⟨_,rfl⟩;have HA:=qg4 hA;clear hA;go_wp2;go_loopw [6,7] (λov kv wr=>∃k:Nat,kv=.int .i64 k/\k<=ps.length/\(u3.tp T).grownBy wr none/\wr.ownsRow A 3 1 ov (zk l k).length ((zk l k).map (qgy .i64))) (λ_ kv _=>(ps.length - qhj kv).toNat)
 case atStart=>exact⟨0,rfl,by omega,qgn _ _,qiq _ _ _ _⟩
 case round=>
  obtain⟨k,rfl,hk,hG,hO⟩:=hrel;have HG:=qg4 hG;have c0:=XR.out _ hG;by_cases hlt:k<ps.length
  ·have m5:(k:Int)<(ps.length:Int):=by omega
   have HS:=qg4 (q1e l k);have E6:(zk l k).length<=1000:=by
    unfold zk;exact qgi (qj4 _ _) (by rw[zA];omega)
   generalize zk l k=M at hO HS E6 ⊢;obtain⟨oa,oc,rfl,-⟩:=jN hO;have HO:=qg4 hO;have HL:=qg4 (LR.out _ hG);have H3:A<=wr.heap.size:=by have:=HA.out;have:=hG.size;omega
   clear hO hG;by_cases hm:(k:Int)∈l
   ·rw[if_pos hm] at HS;have HM:=qg4 hm;clear hm;go_wp2_with (first
     | (go_at_call 40;refine(qbi _ _ _ l k _ HL.out).mono ?_;rintro e w3 ⟨r,rfl,hr,rfl⟩;have E1:0<=r:=(by have:=mt hr.1;simp only[Decidable.not_not] at this;have:=this HM.out;omega);clear hr)
     | (at_builtin;(refine qke _ rfl _ _ 29 rfl A 3 i0 _ 1 8 Tp.und29' k6 D8 D7 D6 rfl (by decide) (.slice oa M.length oc) M.length _ rfl (HO.out.alloc _) ⟨wr.heap.size,0,none⟩ 1 1 [.int .i64 k] rfl rfl (qhx (cs:=#[.int .i64 k]) (t:=3) (fr:=(0,0)) (qgg wr _)) (by simp[qid]) (by unfold qk9;omega) (by omega) (by simp;omega) ?_);intro v5 w5 hown k8 _;have HW:=qg4 hown;have F5:=qg4 k8;clear hown k8))
    have E7:=qj5 (row:=none) (HG.out.trans (qg6 wr (.cells #[.int .i64 k] 3) none)) F5.out (λj e=>.inl (by have:=(HO.out.lt j e).1;have:=HA.out;omega));go_roundw
    case rel=>exact⟨k+1,by simp,by omega,E7,by rw[HS.out,qij,qhe];exact HW.out⟩
    case measure=>simp[qhj];omega
   ·rw[if_neg hm] at HS;have HM:=qg4 hm;clear hm;go_wp2_with (first
     | (go_at_call 40;refine(qbi _ _ _ l k _ HL.out).mono ?_;rintro e w3 ⟨r,rfl,hr,rfl⟩;have E1:¬ 0<=r:=(by have:=hr.2 HM.out;omega);clear hr))
    go_roundw
    case rel=>exact⟨k+1,by simp,by omega,HG.out,by rw[HS.out,List.append_nil];exact HO.out⟩
    case measure=>simp[qhj];omega
  ·obtain rfl:k=ps.length:=by omega
   obtain⟨ws,w8⟩:∃ws,ws=zk l ps.length:=⟨_,rfl⟩;rw[<- w8] at hO b9 hwl;have r6:=qe.own hO (by omega);obtain⟨wb,wc,rfl,-,-⟩:=r6.cell;have C2:=qg4 r6;clear hG hO r6 w8;go_wp2;clear c0;refine j5 (λq=>(wq.tp q.tape).grownBy q none/\YL ps lim l yb yc lb lc X q/\qe 0 q.heap.size q (.slice wb ws.length wc) ws) ⟨gb g3 (tpg HG.out),f3.kept HG.out,C2.out.mono (qh1 _) (qg9 _)⟩ λu4 hF=>?_;obtain⟨g4,f4,w4⟩:=hF;clear XR LR HA HG C2 g3 f3;refine EL.sp D hb hs λT=>?_;have c0:=q8 (w:=u4.tp T) f4.x (o:=0) rfl;have c1:=q8 (w:=u4.tp T) f4.x (o:=1) rfl;go_wp2_with (first
    | (go_at_call 41;refine(q5x 0 u4.heap.size _ ps lim (u4.tp T) f4.p (qg9 _) c3.out.len m7.out).mono ?_;rintro e w5 ⟨av,rfl,A8,r3⟩;have G5:=qg4 A8;have R5:=qg4 r3;obtain⟨ab,ac,rfl,-⟩:=r3.at;clear A8 r3)
    | (go_at_call 42;refine(q5r 0 _ _ ws w5 ((qe.kept (w:=u4.tp T) w4 G5.out (by simp)).mono (qg9 _) G5.out.size) (qg9 _) (by omega)).mono ?_;rintro e w6 ⟨cv,rfl,k9,q7⟩;have G6:=qg4 k9;have R6:=qg4 q7;obtain⟨cb,cc,rfl,-⟩:=q7.at;clear k9 q7))
   obtain⟨all,e7⟩:∃all,all=qO ps:=⟨_,rfl⟩;obtain⟨lists,c8⟩:∃lists,lists=JY ws:=⟨_,rfl⟩;rw[<- e7] at R5 ⊢;rw[<- c8] at R6 ⊢;have e9:=qg4 e7;have m9:=qg4 (c8.trans b9.out.sub);have H1:all.length<=81:=by
    rw[e7];have h:=Zd ps (λp h=>by have:=m7.out p h;unfold xZ;omega) ps.length;rw[qha] at h;exact qgi h (qgi (ql8 (by decide) B9) (by decide))
   have G4:lists.length<=16:=by rw[m9.out];exact b9.out.len
   clear e7 c8;refine j5 (λq=>(wq.tp q.tape).grownBy q none/\YL ps lim l yb yc lb lc X q/\jm q.heap.size q (.slice ab all.length ac) all/\jm q.heap.size q (.slice cb lists.length cc) lists) ⟨gb g4 (tpg (G5.out.trans G6.out)),f4.kept (G5.out.trans G6.out),(R5.out.kept G6.out).rows (qg9 _),R6.out.rows (qg9 _)⟩ λu5 hF=>?_;obtain⟨g5,f5,a5,s5⟩:=hF;clear G5 G6 R5 R6 g4 f4 w4 c0 c1;refine EL.sp D hb hs λT=>?_;have z4:∀w,(Instr.makeSlice 61 (.int .i64 all.length) (.int .i64 all.length)).run Tp.prog w=.ok (.slice (some ⟨w.heap.size,0,none⟩) all.length all.length) (w.alloc (.cells (qjE #[.bool false] all.length) 4)):=λw=>by
    have:=run_make (P:=Tp.prog) w 61 4 qpu (.bool false) (by rw[Tp.und];exact Tryz.underlying61) (by rw[Qy _ _ Tp.tables];exact Tryz.type4) rfl .i64 .i64 all.length all.length (by omega) (by omega) (by simp[qpu];omega) (by omega);simpa[Value.cells,qpu] using this
   have C4:=qg4 z4;clear z4;go_wp2_with (first | rw[C4.out]);obtain⟨C,hC⟩:∃C,C=(u5.tp T).heap.size:=⟨_,rfl⟩;have a9:=qg6 (u5.tp T) (.cells (qjE #[.bool false] all.length) 4) none;have q6:=jF.made (u5.tp T) all.length;rw[<- hC] at q6 ⊢;refine j5 (λq=>(wq.tp q.tape).grownBy q none/\q.heap[X]?=some (.cells #[.slice yb ps.length yc,.int .i64 lim] 24 (0,0))/\(qr 0 C q (.slice yb ps.length yc) ps/\qe 0 C q (.slice lb l.length lc) l)/\(qy q (.slice yb ps.length yc)/\qy q (.slice lb l.length lc))/\(∀ad n c,(qh7 yb ps.length yc=.slice (some ad) n c\/qh7 lb l.length lc=.slice (some ad) n c)->ad.block<C)/\(jm C q (.slice ab all.length ac) all/\jm C q (.slice cb lists.length cc) lists)/\jF q C all.length (λ_=>false)/\wq.heap.size<=C/\X<C) ⟨gb g5 (tpg a9),blk (w:=u5.tp T) a9 (by simp) f5.x,⟨(qr.kept (w:=u5.tp T) f5.p a9 (by simp)).mono (qg9 _) (qj6 hC.symm),(qe.kept (w:=u5.tp T) f5.m a9 (by simp)).mono (qg9 _) (qj6 hC.symm)⟩,⟨qy.keptR (w:=u5.tp T) f5.y a9 (by simp),qy.keptR (w:=u5.tp T) f5.i a9 (by simp)⟩,λad n c e=>by rw[hC];exact e.elim (λe=>qy.lt (w:=u5) f5.y e) (λe=>qy.lt (w:=u5) f5.i e),⟨(jm.kept (w:=u5.tp T) a5 a9 (by simp)).up (qj6 hC.symm),(jm.kept (w:=u5.tp T) s5 a9 (by simp)).up (qj6 hC.symm)⟩,q6,by rw[hC];exact g5.size,by rw[hC];exact(qg8.1 f5.x).1⟩ λu6 hF=>?_;obtain⟨g6,x6,⟨p6,l6⟩,⟨y6,i6⟩,t5,⟨a6,s6⟩,n6,x0,H2⟩:=hF;clear a9 q6 hC g5 f5 a5 s5 C4;refine EL.sp D hb hs λT=>?_;have B6:¬ X=C:=by omega
   have XR:=qg4 λ(w:qg7) (h:(u6.tp T).grownBy w (some C))=>(blk h (by simpa using B6) (show(u6.tp T).heap[X]?=_ from x6):w.heap[X]?=_);have PR:=qg4 λ(w:qg7) (h:(u6.tp T).grownBy w (some C))=>(qr.kept (w:=u6.tp T) p6 h (by rintro R e;cases e;exact .inr (qg9 _)):qr 0 C w (.slice yb ps.length yc) ps);have LR:=qg4 λ(w:qg7) (h:(u6.tp T).grownBy w (some C))=>(qe.kept (w:=u6.tp T) l6 h (by rintro R e;cases e;exact .inr (qg9 _)):qe 0 C w (.slice lb l.length lc) l);have RR:=qg4 λ(w:qg7) (h:(u6.tp T).grownBy w (some C))=>(jm.kept (w:=u6.tp T) a6 h (by rintro R e;cases e;exact qg9 _):jm C w (.slice ab all.length ac) all);have SR:=qg4 λ(w:qg7) (h:(u6.tp T).grownBy w (some C))=>(jm.kept (w:=u6.tp T) s6 h (by rintro R e;cases e;exact qg9 _):jm C w (.slice cb lists.length cc) lists);have YR:=qg4 λ(w:qg7) (h:(u6.tp T).grownBy w (some C))=>qgw (qy.keptR (w:=u6.tp T) y6 h (λad n c e e2=>by have:=t5 ad n c (.inl e);cases e2;omega)) (qy.keptR (w:=u6.tp T) i6 h (λad n c e e2=>by have:=t5 ad n c (.inr e);cases e2;omega));have N6:=qg4 (show jF (u6.tp T) C all.length (λ_=>false) from n6);have G6:=qg4 g6;have C0:=qg4 x0;have d9:=qg4 (show ∀ws∈all,ws.length=ps.length/\∀i,0<=gw ws i/\gw ws i<=1000 by
    rw[e9.out];intro ws h;have e5:∀p∈ps,p.mn<=p.mx:=λp hp=>(m7.out p hp).2.1;refine⟨by have:=kT ps ps.length (qg9 _) ws (by rwa [qha]);exact this,λi=>?_⟩;have h1:=Jd e5 h i;have h2:=c3.out.mn i;have h3:=c3.out.mx i;omega)
   have B8:C<(u6.tp T).heap.size:=N6.out.lt;have F6:=qg4 B8;clear p6 l6 x6 a6 s6 n6 g6 x0 t5 y6 i6 B8;go_wp2;go_loopw [11] (λiv wr=>∃i:Nat,iv=.int .i64 i/\i<=all.length/\(u6.tp T).grownBy wr (some C)/\jF wr C all.length (λj=>if j<i then qp ps (gw (all[j]?.getD [])) l else false)) (λiv _=>(all.length - qhj iv).toNat)
   case atStart=>exact⟨0,rfl,by omega,qgn _ _,N6.out.congr λj _=>by simp⟩
   case round=>
    obtain⟨i,rfl,hi,hG,hN⟩:=hrel;obtain⟨W0,rfl⟩:∃W0,W0=wr:=⟨_,rfl⟩;have HG:=qg4 hG;have HN:=qg4 hN;by_cases hlt:i<all.length
    ·obtain⟨xs,hxs⟩:∃xs,all[i]?=some xs:=⟨_,qge hlt⟩;have E3:(i:Int)<(all.length:Int):=by omega
     have E0:=hN.thaw i;have B3:=hN.cell hlt;rw[if_neg (ql9 i)] at B3;have l8:=qg4 (hN.set (x:=true) hlt);have d8:=qg4 (hG.andThen (qf W0 C i (.bool true)) (λj e=>.inr e));have c9:=qg4 hxs;clear hG hN hxs;go_upto_region 16 with(fail);generalize W0.setCell ⟨C,i,none⟩ (.bool true)=W1 at l8 d8 ⊢;obtain⟨_,_,ea,l5⟩:=RR.out _ d8.out;injection ea with ea1 _ ea3;subst ea1 ea3;obtain⟨AB,rfl,-,-,p3⟩:=l5 (by omega);obtain⟨z,hz,hzi⟩:=p3 i xs c9.out;have c0:=q8 (XR.out _ d8.out) (o:=0) rfl;have c1:=q8 (XR.out _ d8.out) (o:=1) rfl;have HZ:=qg4 hzi;have h8:C<W1.heap.size:=l8.out.lt;clear p3 l5 hzi E0 B3;go_still_tail 6,(by kernel_rfl);change wpList _ _ _ _ _ W1.drew;have F1:W1.drew.cell? ⟨X,0,none⟩=_:=c0;have E9:W1.drew.cell? ⟨X,1,none⟩=_:=c1;have D9:W1.drew.cell? ⟨AB,i,none⟩=_:=hz;go_wp2_with (first
      | (go_at_call 43;refine(q3F 0 C _ _ _ ps lim l xs _ (PR.out _ (d8.out.trans (qc _ _))) (LR.out _ (d8.out.trans (qc _ _))) (HZ.out.kept (qc _ none) (by simp)) (qlr h8) PK.out.ok (by omega) (d9.out xs (qgj c9.out)).1 (d9.out xs (qgj c9.out)).2 (λp hp=>by have:=c3.out.each p hp;omega)).mono ?_;rintro e w6 ⟨Dd,rfl,hD,hg,x4⟩;have k9:=d8.out.trans ((qj5 (row:=some C) (qgn W1 (some C)) (qc W1 none) (by simp)).andThen hg (by simp));have H6:=qg4 k9;have F2:=qg4 x4;have N7:=qg4 (l8.out.kept ((qc W1 none).trans hg) (by simp));clear hg k9 x4))
     have E8:¬ Dd=C:=by have h1:W1.heap.size<=Dd:=hD;omega
     clear c0 c1 F1 E9 hz D9;go_loopw [13] (λkv wj=>∃k:Nat,kv=.int .i64 k/\k<=l.length/\w6.grownBy wj (some C)/\jF wj C all.length (λj=>if j=i then(qgB k).all (yz ps (gw xs) l) else if j<i then qp ps (gw (all[j]?.getD [])) l else false)) (λkv _=>(l.length - qhj kv).toNat)
     case atStart=>exact⟨0,rfl,by omega,qgn _ _,N7.out.congr λj _=>by simp⟩
     case round=>
      obtain⟨k,rfl,hk,hG,hN⟩:=hrel;have C6:=qg4 hG;have u0:=qg4 hN;by_cases z5:k<l.length
      ·have hb1:=(F2.out.kept hG (by simpa using E8)).cell z5;have z3:=hN.cell hlt;have ht1:=hN.thaw i;have m5:(k:Int)<(l.length:Int):=by omega
       simp only[if_true] at z3;have t9:=qg4 (show(qgB (k+1)).all (yz ps (gw xs) l)=((qgB k).all (yz ps (gw xs) l) && yz ps (gw xs) l k) by rw[qjz,List.all_append];simp);clear hG hN;generalize (qgB k).all (yz ps (gw xs) l)=sb at z3 u0 t9;generalize yz ps (gw xs) l k=ob at hb1 t9;have fin:∀x:Bool,x=(sb && ob)->jF (wr.setCell ⟨C,i,none⟩ (.bool x)) C all.length (λj=>if j=i then(qgB (k+1)).all (yz ps (gw xs) l) else if j<i then qp ps (gw (all[j]?.getD [])) l else false):=λx hx=>(u0.out.set (x:=x) hlt).congr λj _=>by
        by_cases e:j=i
        ·rw[if_pos e,if_pos e,t9.out,hx]
        ·rw[if_neg e,if_neg e,if_neg e]
       have l9:=qg4 fin;clear fin;cases sb<;>cases ob;all_goals
        simp only[qld,qli] at hb1;go_wp2;go_roundw
        case rel=>exact⟨k+1,by simp,by omega,C6.out.trans (qf _ _ _ _),l9.out _ rfl⟩
        case measure=>simp[qhj];omega
      ·obtain rfl:k=l.length:=by omega
       clear hG hN;go_wp2;go_roundw
       case rel=>exact⟨i+1,by simp,by omega,H6.out.trans C6.out,u0.out.congr λj _=>by
        by_cases e:j=i
        ·subst e;rw[if_pos rfl,if_pos (by omega),c9.out];rfl
        ·rw[if_neg e];by_cases e2:j<i
         ·rw[if_pos e2,if_pos (by omega)]
         ·rw[if_neg e2,if_neg (by omega)]⟩
       case measure=>simp[qhj];omega
    ·obtain rfl:i=all.length:=by omega
     have B7:jF W0 C all.length (λj=>qp ps (gw (all[j]?.getD [])) l):=hN.congr λj hj=>by rw[if_pos hj]
     have C3:=qg4 B7;have h8:C<W0.heap.size:=hN.lt;clear hG hN B7 HN;go_wp2;refine j5 (λq=>(wq.tp q.tape).grownBy q none/\YL ps lim l yb yc lb lc X q/\(jm q.heap.size q (.slice ab all.length ac) all/\jm q.heap.size q (.slice cb lists.length cc) lists)/\jF q C all.length (λj=>qp ps (gw (all[j]?.getD [])) l)) ⟨q80 G6.out (tpg HG.out) C0.out,⟨XR.out _ HG.out,(PR.out _ HG.out).mono (qg9 _) (qlr h8),(LR.out _ HG.out).mono (qg9 _) (qlr h8),(YR.out _ HG.out).1,(YR.out _ HG.out).2⟩,⟨(RR.out _ HG.out).up (qlr h8),(SR.out _ HG.out).up (qlr h8)⟩,C3.out⟩ λu7 hF=>?_;obtain⟨g7,f7,⟨a7,s7⟩,n7⟩:=hF;clear XR PR LR RR SR YR N6 G6 C0 F6 HG C3 d9;refine EL.seq D hb hs ?_;refine EL.region D hb hs ?_;simp only[qgF,qgq,qgx,qgG,qgz,qgB,qhg];refine EL.list D hb hs [0,1] [_,_] (rest:=[2,3,4,5,6,7]) rfl λT=>?_;have c0:=q8 (w:=u7.tp T) f7.x (o:=0) rfl;have c1:=q8 (w:=u7.tp T) f7.x (o:=1) rfl;go_wp2;refine EL.tape (wq:=u7) ?_ T;clear c0 c1;have e5:∀p∈ps,p.mn<=p.mx:=λp hp=>(m7.out p hp).2.1;have e8:=qg4 e5;clear e5;refine EL.enter D hb hs (fk:=29) (args:=#[.agg #[.slice yb ps.length yc,.int .i64 lim],.slice lb l.length lc]) rfl rfl (λT=>by rw[qlx (f:=29) rfl Tp.x29 (by kernel_rfl) rfl];walk_nrm) (z6 29 (by decide)) ?_;refine qfs D hok A0 hin ⟨_,Tp.x6,qof⟩ (ws:=ws) (l:=l) (by omega) (λc hc hcl=>q6x c3.out PK.out.ok (by omega) (λy hy=>b9.out.bd y (hc y hy)) (by omega)) (by have h:=q06 (l:=l) (by have:=Qr ps.length l PK.out.nd PK.out.ok;omega);rwa [b9.out.srt] at h) c3.out PK.out f7.p f7.y f7.m f7.i ?_ _ [qj 6] hb hs λv u hR=>?_
     ·obtain⟨cs,e,g,h0,k6⟩:=h0;exact⟨cs,e,g,blk (w:=wq.tp u7.tape) g7 (by simp) h0,k6⟩
     obtain⟨o,sv,rfl,⟨bb,x1⟩,s3,r9⟩:=hR;obtain⟨l7,gc,rfl,-,-⟩:=r9.cell;obtain⟨c0,hfd,n9⟩:=Y9 (jI ps l) (j3 ws 0) [] ⟨ws,b9.out.all,(Ye e8.out b9.out.bd).2 (q97 PK.out.ok b9.out.has)⟩;rw[n9] at x1;cases x1;rw[<- m9.out] at hfd;obtain⟨hc0,ic,E4,A9,p9⟩:=List.find?_eq_some_iff_getElem.1 hfd;have F7:=qg4 hc0;have D1:=qg4 (show lists[ic]?=some o by rw[qge E4,A9]);have D2:=qg4 (show ∀i c,i<ic->lists[i]?=some c->¬ q0H ps l c from λi c hi hc hsz=>by
      have h1:=p9 i hi;have r8:i<lists.length:=by omega
      have e:lists[i]=c:=by rw[qge r8] at hc;exact qjj hc
      have hm:c∈j3 ws 0:=by rw[<- m9.out];exact qgj hc
      rw[e] at h1;have h2:=(Ye e8.out (b9.out.mem c hm).1).2 hsz;rw[h2] at h1;cases h1)
     clear hfd n9 hc0 A9 p9;rw[qiA];walk_nrm;have t6:0<all.length:=by rw[e9.out];exact qkg.2 λe=>by have:=q5w e8.out;rw[e] at this;cases this
     obtain⟨AB,rfl⟩:∃AB,ab=some ⟨AB,0,none⟩:=by
      obtain⟨_,_,e,h⟩:=a7;obtain⟨g,e2,_⟩:=h t6;injection e with e1 _ _;exact⟨g,e1.trans e2⟩
     obtain⟨LB,rfl⟩:∃LB,cb=some ⟨LB,0,none⟩:=by
      obtain⟨_,_,e,h⟩:=s7;obtain⟨g,e2,_⟩:=h (by omega);injection e with e1 _ _;exact⟨g,e1.trans e2⟩
     refine EL.list D hb hs [3,4,5,6,7] [_,_,_,_,_] (rest:=[]) rfl λT=>?_;go_wp2;refine EL.tape (wq:=u) ?_ T;refine EL.region_end D hb hs ?_;have b8:q4a all lists ps l AB ac LB cc C l7 gc o u:=by
      have k7:(u7.tp u.tape).grownBy u none:=s3;exact⟨(jm.kept (w:=u7.tp u.tape) a7 k7 (by simp)).up k7.size,(jm.kept (w:=u7.tp u.tape) s7 k7 (by simp)).up k7.size,jF.kept (w:=u7.tp u.tape) n7 k7 (by simp),r9⟩
     have g8:=gb g7 s3;clear g7 f7 a7 s7 n7 s3 r9;refine EL.seq D hb hs ?_;refine EL.sp D hb hs λT=>?_;go_wp2;refine EL.tape (wq:=u) ?_ T;refine EL.block D hb hs ?_;refine qb0 D hb hs (λn a u=>∃(i:Nat) (z:Array qgb),n=lists.length - i/\i<=ic/\a=⟨z,[]⟩/\z.size=182/\z[8]?=some (.slice (some ⟨AB,0,none⟩) all.length ac)/\z[9]?=some (.slice (some ⟨LB,0,none⟩) lists.length cc)/\z[10]?=some (.slice (some ⟨C,0,none⟩) all.length all.length)/\z[14]?=some (.slice l7 o.length gc)/\z[15]?=some (.int .i64 0)/\z[16]?=some (.int .i64 i)/\(wq.tp u.tape).grownBy u none/\q4a all lists ps l AB ac LB cc C l7 gc o u) ?round ⟨0,_,rfl,qh1 _,rfl,rfl,rfl,rfl,rfl,rfl,rfl,rfl,g8,b8⟩;clear g8 b8;rintro n a u ⟨i,z,rfl,hi,rfl,hz,z8,z9,v6,v4,v3,v2,gu,hf⟩ ih;obtain⟨t,ht,v7⟩:=arrZ z hz;simp only[qgB,qhg,qkm,List.map_nil,ht 8 _ z8,ht 9 _ z9,ht 10 _ v6,ht 14 _ v4,ht 15 _ v3,ht 16 _ v2] at v7;clear ht;subst v7;clear hz z8 z9 v6 v4 v3 v2;have r8:i<lists.length:=by omega
     have E3:(i:Int)<(lists.length:Int):=by omega
     refine EL.sp D hb hs λT=>?_;go_wp2;refine EL.tape (wq:=u) ?_ T;refine EL.seq D hb hs ?_;refine EL.block D hb hs ?_;refine EL.sp D hb hs λT=>?_;go_wp2;refine EL.tape (wq:=u) ?_ T;refine EL.sp D hb hs λT=>?_;obtain⟨c,hc⟩:∃c,lists[i]?=some c:=⟨_,qge r8⟩;have hcm:=b9.out.mem c (by rw[<- m9.out];exact qgj hc);have v1:=qg4 hcm;have hcl:=hcm.2;have HC:=qg4 hc;have HF:=qg4 λ(w:qg7) (h:(u.tp T).grownBy w none)=>q4a.kept (u:=u.tp T) ⟨hf.al,hf.li,hf.fi,hf.go⟩ h;have C8:=qg4 hf;have n3:=qg4 gu;have D0:=qg4 (show ∀xs∈all,xs.length=ps.length by
      rw[e9.out];exact λxs h=>kT ps ps.length (qg9 _) xs (by rwa [qha]))
     clear hcm hc hf gu;go_wp2;go_loopw [17,18] (λsv xv wr=>∃(s:Bool) (x:Nat),sv=.bool s/\xv=.int .i64 x/\x<=all.length/\(u.tp T).grownBy wr none/\(s=true->∀a,a<x->∀b,b<a->kA ps l all c a b=true)/\(s=false->∃a b,a<all.length/\b<a/\kA ps l all c a b=false)) (λ_ xv _=>(all.length - qhj xv).toNat)
     case atStart=>exact⟨true,0,rfl,rfl,by omega,qgn _ _,λ_ a ha=>by omega,λh=>by cases h⟩
     case round=>
      obtain⟨s,x,rfl,rfl,hx,hG,k5,k0⟩:=hrel;obtain⟨U,rfl⟩:∃U,U=wr:=⟨_,rfl⟩;have HG:=qg4 hG;have t8:=qg4 k5;have C1:=qg4 k0;clear hG k5 k0;by_cases b7:x<all.length/\s=true
      ·obtain⟨hxl,rfl⟩:=b7;have q4:(x:Int)<(all.length:Int):=by omega
       obtain⟨xs,hxs⟩:∃xs,all[x]?=some xs:=⟨_,qge hxl⟩;have c9:=qg4 hxs;clear hxs;go_wp2;go_loopw [17,19] (λsv kv wr=>∃(s:Bool) (k:Nat),sv=.bool s/\kv=.int .i64 k/\k<=x/\(u.tp T).grownBy wr none/\(s=true->∀b,b<k->kA ps l all c x b=true)/\(s=false->∃b,b<x/\kA ps l all c x b=false)) (λ_ kv _=>(x - qhj kv).toNat)
       case atStart=>exact⟨true,0,rfl,rfl,by omega,HG.out,λ_ a ha=>by omega,λh=>by cases h⟩
       case round=>
        obtain⟨s,k,rfl,rfl,hk,hG,k5,k0⟩:=hrel;obtain⟨V,rfl⟩:∃V,V=wr:=⟨_,rfl⟩;have u8:=qg4 hG;have C5:=qg4 k5;have F4:=qg4 k0;clear hG k5 k0;by_cases b7:k<x/\s=true
        ·obtain⟨E2,rfl⟩:=b7;have m5:(k:Int)<(x:Int):=by omega
         have z5:(k:Int)<(all.length:Int):=by omega
         obtain⟨ks,hks⟩:∃ks,all[k]?=some ks:=⟨_,qge (by omega)⟩;have n2:=qg4 hks;clear hks;go_wp2;go_loopw [20,21] (λev mv wm=>∃m:Nat,mv=.int .i64 m/\m<=c.length/\ev=.bool ((c.take m).all λj=>gw xs j.toNat == gw ks j.toNat)/\(u.tp T).grownBy wm none) (λ_ mv _=>(c.length - qhj mv).toNat)
         case atStart=>exact⟨0,rfl,by omega,by simp,u8.out⟩
         case round=>
          obtain⟨m,rfl,hm,rfl,hG⟩:=hrel;have v0:=qg4 hG;have b8:=HF.out _ hG;obtain⟨_,_,el,d5⟩:=b8.li;injection el with el1 _ el3;subst el1 el3;obtain⟨_,e2,_,_,a8⟩:=d5 (by omega);cases e2;obtain⟨zc,q3,b0⟩:=a8 i c HC.out;obtain⟨zb,D4,rfl,-,b6⟩:=b0.cell;by_cases m4:m<c.length
          ·obtain⟨j,hj⟩:∃j,c[m]?=some j:=⟨_,qge m4⟩;have A3:=v1.out.1 j (qgj hj);obtain⟨jn,rfl⟩:∃jn:Nat,j=(jn:Int):=⟨j.toNat,by omega⟩;have hmm:(m:Int)<(c.length:Int):=by omega
           have d7:=qg4 (show((c.take (m+1)).all λj=>gw xs j.toNat == gw ks j.toNat)=(((c.take m).all λj=>gw xs j.toNat == gw ks j.toNat) && (gw xs jn == gw ks jn)) by rw[qhd,hj];simp);cases hev:(c.take m).all λj=>gw xs j.toNat == gw ks j.toNat with
           | false=>
            rw[hev,Bool.false_and] at d7;clear hG b8 d5 a8 b0 b6 hj A3 hev;go_upto_region 36 with(fail);go_quiet (fail);go_wp2;go_roundw
            case rel=>exact⟨m+1,by simp,by omega,by rw[d7.out],v0.out.trans (qi _ _ none)⟩
            case measure=>simp[qhj];omega
           | true=>
            rw[hev,Bool.true_and] at d7;obtain⟨ZB,zo,rfl,-,-,-,n4⟩:=b6 (by intro e;rw[e] at m4;simp at m4);have d0:=n4 m m4;rw[hj] at d0;simp only[qgh] at d0;obtain⟨_,_,ea,l5⟩:=b8.al;injection ea with ea1 _ ea3;subst ea1 ea3;obtain⟨_,e2,_,_,d6⟩:=l5 (by omega);cases e2;obtain⟨xv,G1,n8⟩:=d6 x xs c9.out;obtain⟨xb,xc,rfl,-,e4⟩:=n8.cell;obtain⟨kv,G8,p5⟩:=d6 k ks n2.out;obtain⟨kb,kc,rfl,-,e6⟩:=p5.cell;have q1:=D0.out xs (qgj c9.out);have q2:=D0.out ks (qgj n2.out);obtain⟨XB,xo,rfl,-,-,-,v9⟩:=e4 (by intro e;rw[e] at q1;simp at q1;omega);obtain⟨KB,ko,rfl,-,-,-,z7⟩:=e6 (by intro e;rw[e] at q2;simp at q2;omega);have d1:=v9 jn (by omega);have d2:=z7 jn (by omega);have H0:(jn:Int)<(xs.length:Int):=by omega
            have F9:(jn:Int)<(ks.length:Int):=by omega
            unfold gw at d7;generalize xs[jn]?.getD 0=z1 at d1 d7;generalize ks[jn]?.getD 0=z2 at d2 d7;clear hG b8 d5 a8 b0 b6 hj A3 hev l5 d6 n8 p5 e4 e6 v9 z7 n4 q1 q2;go_upto_region 36 with(fail);go_quiet (fail);go_wp2;go_roundw
            case rel=>exact⟨m+1,by simp,by omega,by unfold gw;rw[d7.out],v0.out.trans (qi _ _ none)⟩
            case measure=>simp[qhj];omega
          ·obtain rfl:m=c.length:=by omega
           have s8:=b8.fi.cell (i:=x) hxl;have s4:=b8.fi.cell (i:=k) (by omega);have m8:=qg4 (show kA ps l all c x k=(!((c.take c.length).all λj=>gw xs j.toNat == gw ks j.toNat) || qp ps (gw xs) l == qp ps (gw ks) l) by unfold kA;rw[c9.out,n2.out,qha];rfl);rw[c9.out] at s8;rw[n2.out] at s4;simp only[qgh] at s8 s4;have hcc:¬ (c.length:Int)<(c.length:Int):=by omega
           generalize ((c.take c.length).all λj=>gw xs j.toNat == gw ks j.toNat)=eb at m8 ⊢;generalize qp ps (gw xs) l=p1 at s8 m8;generalize qp ps (gw ks) l=p2 at s4 m8;have fin:∀v:Bool,v=kA ps l all c x k->∀w9,(u.tp T).grownBy w9 none->∃(s:Bool) (k':Nat),Value.bool v=.bool s/\qgy .i64 ((k:Int)+1)=.int .i64 k'/\k'<=x/\(u.tp T).grownBy w9 none/\(s=true->∀b,b<k'->kA ps l all c x b=true)/\(s=false->∃b,b<x/\kA ps l all c x b=false):=λv hv w9 h9=>⟨v,k+1,rfl,by simp,by omega,h9,λh b hb=>by
            by_cases e:b=k
            ·rw[e,<- hv,h]
            ·exact C5.out (by first | rfl | trivial) b (by omega),λh=>⟨k,E2,by rw[<- hv,h]⟩⟩
           have l9:=qg4 fin;clear hG b8 d5 a8 b0 b6 fin;cases eb<;>cases p1<;>cases p2;all_goals
            go_upto_region 37 with(fail);go_quiet (fail);go_wp2;go_roundw
            case rel=>exact l9.out _ m8.out.symm _ (v0.out.trans (qi _ _ none))
            case measure=>simp[qhj];omega
        ·have p8:(s=true->∀a,a<x+1->∀b,b<a->kA ps l all c a b=true):=λh a ha b hb=>by
          by_cases e:a=x
          ·subst e;exact C5.out h b (by have:¬ k<a:=λh2=>b7 ⟨h2,h⟩;omega)
          ·exact t8.out (by first | rfl | trivial) a (by omega) b hb
         have C9:=qg4 p8;have l4:(s=false->∃a b,a<all.length/\b<a/\kA ps l all c a b=false):=λh=>by
          obtain⟨b,hb,hp⟩:=F4.out h;exact⟨x,b,hxl,hb,hp⟩
         have q0:=qg4 l4;clear p8 l4;cases s with
         | true=>
          have m5:¬ (k:Int)<(x:Int):=λh=>b7 ⟨by omega,rfl⟩;clear b7;go_wp2;go_roundw
          case rel=>exact⟨true,x+1,rfl,by simp,by omega,u8.out,C9.out,q0.out⟩
          case measure=>simp[qhj];omega
         | false=>
          clear b7;by_cases m5:(k:Int)<(x:Int);all_goals
           go_wp2;go_roundw
           case rel=>exact⟨false,x+1,rfl,by simp,by omega,u8.out,C9.out,q0.out⟩
           case measure=>simp[qhj];omega
      ·have hsz:s=true↔q0H ps l c:=by
        have hc0:∀y∈c,0<=y:=λy hy=>(v1.out.1 y hy).1;have e:=e9.out;subst e;constructor
        ·intro h;have:¬ x<(qO ps).length:=λh2=>b7 ⟨h2,h⟩;exact q7p hc0 λa ha b hb=>t8.out h a (by omega) b hb
        ·intro h;cases s with
         | true=>rfl
         | false=>
          obtain⟨a,b,ha,hb,hp⟩:=C1.out (by first | rfl | trivial);exact absurd h (qa1 ha hb hp)
       have m6:=qg4 hsz;have C7:=qg4 b7;clear hsz b7 t8 C1;have hend:∀q,q=s->True:=λ_ _=>trivial;clear hend;have D5:(s=true/\¬ (x:Int)<(all.length:Int))\/(s=false/\(x:Int)<(all.length:Int))\/(s=false/\¬ (x:Int)<(all.length:Int)):=by
        have h:=C7.out;cases s with
        | true=>exact .inl ⟨rfl,λh2=>h ⟨by omega,rfl⟩⟩
        | false=>exact(qk8 ((x:Int)<(all.length:Int))).elim (λh2=>.inr (.inl ⟨rfl,h2⟩)) (λh2=>.inr (.inr ⟨rfl,h2⟩))
       clear C7;rcases D5 with⟨rfl,q4⟩ | ⟨rfl,q4⟩ | ⟨rfl,q4⟩
       ·have A4:i=ic:=qhG λe=>D2.out i c (by omega) HC.out (m6.out.1 rfl);have hco:c=o:=by have h1:=HC.out;rw[A4,D1.out] at h1;exact(qjj h1).symm
        subst A4;have m3:=qg4 (HF.out _ HG.out);go_wp2;refine j5 (λq=>(wq.tp q.tape).grownBy q none/\q4a all lists ps l AB ac LB cc C l7 gc o q) ⟨gb n3.out (tpg HG.out),m3.out⟩ λu9 t7=>?_;obtain⟨g9,f9⟩:=t7;clear HF C8 n3 m3 HG m6;subst hco;refine EL.sp D hb hs λT=>?_;go_wp2;refine EL.tape (wq:=u9) ?_ T;refine EL.cond D hb hs true (by rfl) ?_;simp only[if_true];refine EL.seq D hb hs ?_;refine EL.region D hb hs ?_;simp only[qgF,qgq,qgx,qgG,qgz,qgB,qhg];refine EL.list D hb hs [0,1,2,3,4,5,6,7,8,9,10] [_,_,_,_,_,_,_,_,_,_,_] (rest:=[11,12,13]) rfl λT3=>?_;obtain⟨_,_,el,d5⟩:=f9.li;injection el with el1 _ el3;subst el1 el3;obtain⟨_,e2,_,_,a8⟩:=d5 (by omega);cases e2;obtain⟨zc,q3,b0⟩:=a8 i c HC.out;obtain⟨zb,D4,rfl,-,-⟩:=b0.cell;have F8:(u9.tp T3).cell? ⟨LB,i,none⟩=_:=q3;have r7:=jZ 0 u9.heap.size 0 u9.heap.size _ _ _ _ (u9.tp T3) f9.go b0;rw[decide_eq_true rfl] at r7;have F3:=qg4 r7;clear r7;clear d5 a8 b0 q3;go_wp2_with (first
         | (go_at_call 31;refine F3.out.mono ?_;rintro e w9 ⟨rfl,s2⟩;have G9:=qg4 s2;clear s2))
        refine j5 (λq=>(wq.tp q.tape).grownBy q none) (gb g9 (tpg G9.out)) λux gx=>?_;refine EL.enter D hb hs (fk:=23) (args:=#[]) rfl rfl (λT=>by rw[qlx (f:=23) rfl Tp.x23 (by kernel_rfl) rfl];walk_nrm) (z6 23 (by decide)) ?_;refine el23 D hok A0 hin ⟨_,Tp.x6,qof⟩ ?_ _ [qj 6] hb hs λv u hR=>?_
        ·obtain⟨cs,e,g,h0,k6⟩:=h0;exact⟨cs,e,g,blk (w:=wq.tp ux.tape) gx (by simp) h0,k6⟩
        obtain⟨rfl,s2⟩:=hR;rw[qiA];walk_nrm;refine EL.list D hb hs [12,13] [_,_] (rest:=[]) rfl λT4=>?_;go_wp2;refine EL.tape (wq:=u) ?_ T4;refine EL.region_end D hb hs ?_;refine EL.retS D hb hs ?_;exact EL.last A6 rfl rfl qof rfl rfl r4
       all_goals
        have hne:i≠ic:=λe=>by
         have h1:=HC.out;rw[e,D1.out] at h1;cases h1;have h2:=m6.out.2 ((Ye e8.out v1.out.1).1 F7.out);cases h2
        have m3:=qg4 (HF.out _ HG.out);go_wp2;refine j5 (λq=>(wq.tp q.tape).grownBy q none/\q4a all lists ps l AB ac LB cc C l7 gc o q) ⟨gb n3.out (tpg HG.out),m3.out⟩ λu9 t7=>?_;obtain⟨g9,f9⟩:=t7;clear HF C8 n3 m3 HG m6;refine EL.sp D hb hs λT=>?_;go_wp2;refine EL.tape (wq:=u9) ?_ T;refine EL.cond D hb hs false (by rfl) ?_;refine EL.skip D hb hs ?_;refine EL.inBlock D hb hs ?_;refine EL.piece D hb hs λT=>?_;have G3:IntKind.i64.wrap ((i:Int)+1)=(i:Int)+1:=qgH _ (by omega);go_wp2;refine EL.tape (wq:=u9) ?_ T;exact ih _ _ u9 (show lists.length - (i+1)<lists.length - i by omega) ⟨i+1,_,rfl,by omega,rfl,rfl,rfl,rfl,rfl,rfl,rfl,rfl,g9,f9⟩
end
end
section
open Go Go.RowKit Go.Co Go.Sim Go.Conc Go.ConcN Go.ChangeShapes Go.WideShapes
theorem Tryz.own:ownKnob Tryz.prog.godebug=none:=by kernel_rfl
theorem Tryz.laidOut:laidOutB qgr=true:=by kernel_rfl
theorem q6t:Tryz.prog.globals.size=0:=by kernel_rfl
theorem q9e:(begin qgr (λ_ _=>0) default).world.heap[0]?=some (.cells ((qkn Tryz.prog.types.size).map λt=>.int .u64 (Int.ofNat t)) 0 (0,0)):=by kernel_rfl
def qde(w:qg7):Prop:=∃cs e f,w.heap[0]?=some (.cells cs e f)/\∀(i:Nat) v,cs[i]?=some v->∃k m,v=.int k m
theorem qfe{w:qg7}(h:w.ShapedOpen qgr):qde w:=by
 obtain⟨o,o0,h1,h2,h3⟩:=h.2 0 (by rw[q6t];exact qg9 _) (qg8.1 q9e).1;rw[q9e] at h2;cases h2;rw[q6t,if_neg (by decide)] at h3;subst h3;refine⟨_,_,_,h1,λi v hv=>?_⟩;rw[qmi] at hv;cases hi:(qkn Tryz.prog.types.size)[i]? with
 | none=>rw[hi] at hv;cases hv
 | some x=>rw[hi] at hv;cases hv;exact⟨_,_,rfl⟩
theorem qf4:@Two (JS Tp.prog qgr ls λ_=>False) Tp.prog qgr :=
 @Two.mk (JS Tp.prog qgr ls λ_=>False) _ _ (qdo _) ⟨⟨JS Tp.prog Tp.prog ls λ_=>False⟩,up _,qdn _⟩ hrf q9b
def qbt(f:qhs):Prop :=
 ∀ [J:JunkSet] {Post:qgb->qg7->Prop} {W:qg7},Two Tp.prog qgr->JunkSet.okf 137->(∀i,¬ JunkSet.jk i)->∀{base:Option qho} {len cap:Nat} {wq:qg7},(len:Int)<=9223372036854775807 ->
  (0<len->∃lb lo,base=some ⟨lb,lo,none⟩/\∀i,i<len->∃x,wq.cell? ⟨lb,lo+i,none⟩=some (.int .i64 x))->qT wq 0 ->
  (∀w,(∀j,j<W.heap.size->w.heap[j]?=W.heap[j]?)->w.os=W.os->w.output=W.output->W.heap.size<=w.heap.size->Post (.bool true) w) ->
  EL Tp.prog qgr f Post W (G (qh8 Tp.prog f #[.slice base len cap] .normal) [qj f]) wq
theorem qaj{f:qhs}(hf:f≠85)(b7:lst.contains f=true)(b6:qbt f){Post:qgb->qg7->Prop}{W:qg7}{a0:Option qho}{len cap:Nat}(hsp:∀a,a0=some a->a.spot=none/\∃cs e g,W.heap[a.block]?=some (.cells cs e g))(hl:(len:Int)<=9223372036854775807)(hr:0<len->∃lb lo,a0=some ⟨lb,lo,none⟩/\∀i,i<len->∃x,W.cell? ⟨lb,lo+i,none⟩=some (.int .i64 x))(h0:qT W 0)(a7:∀w,(∀j,j<W.heap.size->w.heap[j]?=W.heap[j]?)->w.os=W.os->w.output=W.output->W.heap.size<=w.heap.size->Post (.bool true) w) :Go.Co.Ends qgr Post (solo (G (qh8 qgr f #[.slice a0 len cap] .normal) []) W) #[]:=by
 letI:JunkSet:=JS Tp.prog qgr ls λ_=>False
 obtain⟨b0,e0,g0,a8,b9⟩:=h0;have c3:0<W.heap.size:=(qg8.1 a8).1
 let kn:Nat->Bool:=λi=>i == 0 || (match a0 with | some a=>i == a.block | none=>false)
 have b8:∀i,kn i=true->i<W.heap.size->∃cs e g,W.heap[i]?=some (.cells cs e g):=by
  intro i hi _;simp only[kn,qja,beq_iff_eq] at hi;rcases hi with rfl | hi
  ·exact⟨_,_,_,a8⟩
  ·cases a0 with
   | none=>cases hi
   | some a=>
    have:i=a.block:=by simpa using hi
    rw[this];exact(hsp a rfl).2
 refine EL.begin (kn:=kn) (aq:=#[.slice a0 len cap]) qf4 b7 (z6 f hf) (λi h=>h) (by rw[q6t];exact c3) (λi hi=>?_) b8 ⟨rfl,λi x y hx hy=>?_⟩ ?_
 ·rw[q6t] at hi;obtain rfl:i=0:=by omega
  rfl
 ·rw[hx] at hy;cases hy;obtain rfl:x=.slice a0 len cap:=by
   rcases i with _ | i
   ·simpa using hx.symm
   ·simp at hx
  cases a0 with
  | none=>exact .sliceNil _ _
  | some a=>
   obtain⟨a9,cs,e,g,a6⟩:=hsp a rfl;obtain⟨b,o,sp⟩:=a;dsimp only at a9 a6;subst a9;exact .slice _ _ _ _ (xr.2 ⟨(qg8.1 a6).1,by simp[kn],rfl⟩)
 ·refine b6 qf4 (by show lst.contains 137=true;rfl) (λi h=>h) hl (λhp=>?_) ⟨_,_,_,vF (by rfl) a8,λi v hv=>?_⟩ a7;rotate_left
  ·have hsz:i<b0.size:=by have:=(qg8.1 hv).1;simpa[xA] using this
   obtain⟨k,m,e⟩:=b9 i _ (qgC hsz);rw[q0o _ _ (show b0[i]?=some (.int k m) by rw[<- e];exact qgC hsz)] at hv;cases hv;exact⟨k,m,rfl⟩
  obtain⟨lb,lo,rfl,h⟩:=hr hp;refine⟨lb,lo,rfl,λi hi=>?_⟩;obtain⟨x,hx⟩:=h i hi;obtain⟨-,cs,e,g,a6⟩:=hsp _ rfl;refine⟨x,?_⟩;have hc:cs[lo+i]?=some (.int .i64 x):=by simpa[qh6,a6] using hx
  have:=vF (kn:=kn) (by simp[kn]) a6;simp only[qh6,this];exact q0o _ _ hc
end
end Go.Proofs.YtidgnkmjgioapaaGreat
