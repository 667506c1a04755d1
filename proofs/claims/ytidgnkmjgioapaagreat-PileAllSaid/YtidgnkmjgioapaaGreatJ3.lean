/-
  Part 6 of the proof. gladstonelaw04.PileAll answers true for every list of numbers, and leaves its argument as it was. No conditions.
-/
import Derived.Test.YtidgnkmjgioapaaGreatJ2
import Derived.StillTailTactics
import Derived.Test.YtidgnkmjgioapaaGreatRows
import Derived.Conc.LeavingOf
import Derived.Conc.HoldsTime
import Derived.ChangeSame
import Derived.ChangeVars
import Derived.JoinedOf
import Derived.RowKit
import Derived.RowKitTokens
import Derived.LaidHandle
import Derived.ProofKit
set_option maxRecDepth 100000
set_option maxHeartbeats 8000000
set_option linter.all false
open And renaming intro → q86
open Array renaming getElem?_eq_getElem → q8G,getElem?_eq_some_iff → q3g,getElem?_setIfInBounds → q9x
open Bool renaming or_eq_true → qcb
open Go renaming Addr → qaz,Calls → qa4,FuncId → qaA,TypeId → q7C,Value → q4m,World → q2t,heap_alloc_new → q53,info_parts → qcf,madeCells → qcu
open Go.Conc renaming base → q8f
open Go.Frame renaming enter → q9E,finish_at → qc3
open Go.Lib renaming hid → q1g
open Go.Proofs.Tryz renaming prog → q7y
open Go.RowKit renaming intOf → qaE
open Go.Value renaming oneCell' → qc7,ownBlock → q9F
open Go.World renaming cell? → q9z,grownBy_alloc → q2k,news_of_block → qbg,ownsRow_nil → qbH,size_alloc → q79
open Go.World.grownBy renaming refl → q7s
open List renaming append_assoc → qbG,flatMap_cons → qc8,getElem?_append_left → q9c,getElem?_append_right → qbs,getElem?_eq_getElem → q54,getElem?_eq_none → qbl,getElem?_eq_some_iff → q7F,getElem?_map → qbv,length_append → qaG,length_cons → q7v,length_nil → q87,mem_of_getElem? → q7E,mem_range → qbr,range → q99,size_toArray → q93,take_add_one → qao,take_length → qb2
open List.range renaming loop → qag
open Nat renaming le_refl → q4o,le_trans → q6y,lt_irrefl → qdi,lt_of_lt_of_le → q7t,reduceAdd → q98,zero_add → q8w,zero_le → q9t
open Option renaming getD_some → q70
section
namespace Go.Proofs.YtidgnkmjgioapaaGreat
open Go.RowKit
def kB(a b:Int):Int:=if a=0 then 2 else if a=b then 1 else 3
theorem q1H(a b:Int)(w:q2t):qa4 Tryp.prog 74 #[.int .i64 a,.int .i64 b] w λe w'=>e=.returned (.int .i64 (kB a b))/\w=w':=by
 by_cases h:a=0
 ·subst h
  go_enter Tryp.func74,Tryz.ntmps74;go_wp2;go_ret;exact⟨rfl,rfl⟩
 ·have h1:(a == 0)=false:=by rw[beq_eq_false_iff_ne];exact h
  by_cases h2:a=b
  ·subst h2
   have HS:=q1g (show kB a a=1 by unfold kB;rw[if_neg h,if_pos rfl]);clear h;go_enter Tryp.func74,Tryz.ntmps74;go_wp2;go_ret;exact⟨by rw[HS.out];rfl,rfl⟩
  ·have h3:(a == b)=false:=by rw[beq_eq_false_iff_ne];exact h2
   have HS:=q1g (show kB a b=3 by unfold kB;rw[if_neg h,if_neg h2]);clear h h2;go_enter Tryp.func74,Tryz.ntmps74;go_wp2;go_ret;exact⟨by rw[HS.out];rfl,rfl⟩
def kN(w:q2t)(O n:Nat)(f:Nat->Bool):Prop:=∃cs,w.heap[O]?=some (.cells cs 4 (0,0))/\cs.size=n/\∀i,i<n->cs[i]?=some (.bool (f i))
theorem kN.lt{w:q2t}{O n:Nat}{f:Nat->Bool}(h:kN w O n f):O<w.heap.size:=by
 obtain⟨cs,h,-⟩:=h;exact(q3g.1 h).1
theorem kN.cell{w:q2t}{O n i:Nat}{f:Nat->Bool}(h:kN w O n f)(hi:i<n):w.cell? ⟨O,i,none⟩=some (.bool (f i)):=by
 obtain⟨cs,h,-,hc⟩:=h;simp[q9z,h,hc i hi]
theorem kN.thaw{w:q2t}{O n:Nat}{f:Nat->Bool}(h:kN w O n f)(i:Nat):w.frozen? ⟨O,i,none⟩=false:=by
 obtain⟨cs,h,-⟩:=h;simp[World.frozen?,h]
theorem kN.congr{w:q2t}{O n:Nat}{f g:Nat->Bool}(h:kN w O n f)(e:∀i,i<n->f i=g i):kN w O n g:=by
 obtain⟨cs,h,hs,hc⟩:=h;exact⟨cs,h,hs,λi hi=>by rw[hc i hi,e i hi]⟩
theorem kN.set{w:q2t}{O n i:Nat}{f:Nat->Bool}{x:Bool}(h:kN w O n f)(hi:i<n):kN (w.setCell ⟨O,i,none⟩ (.bool x)) O n λj=>if j=i then x else f j:=by
 obtain⟨cs,h,hs,hc⟩:=h;refine⟨_,qh h,by simp[hs],λj hj=>?_⟩;by_cases e:j=i
 ·subst e
  simp[hs,hj]
 ·rw[q9x,if_neg (by omega),hc j hj];show _=some (Value.bool (if j=i then x else f j));rw[if_neg e]
theorem kN.kept{w w':q2t}{O n:Nat}{f:Nat->Bool}{row:Option Nat}(h:kN w O n f)(hg:w.grownBy w' row)(hne:some O≠row):kN w' O n f:=by
 obtain⟨cs,h,hs,hc⟩:=h;exact⟨cs,blk hg hne h,hs,hc⟩
theorem kN.made(w:q2t)(n:Nat):kN (w.alloc (.cells (qcu #[.bool false] n) 4)) w.heap.size n λ_=>false:=by
 refine⟨_,q53 w _,size_madeCells _ _,λi hi=>?_⟩;unfold qcu;simp[hi,Nat.mod_one]
def gw(ws:List Int)(n:Nat):Int:=ws[n]?.getD 0
theorem q33(lo hi:Nat)(yv pv wv:q4m)(ps:List Par)(lim:Int)(l ws:List Int)(w:q2t)(hP:qq lo hi w yv ps)(hI:qe lo hi w pv l)(hW:qe lo hi w wv ws)(hhi:hi<=w.heap.size)(hx:∀x∈l,0<=x/\x<ps.length)(hl:l.length<=1000)
  (hwl:ws.length=ps.length) (hg:∀i,0<=gw ws i/\gw ws i<=1000) (hb:∀p∈ps,0<=p.bears/\p.bears<=1000) :
  qa4 Tryp.prog 43 #[.agg #[yv,.int .i64 lim],pv,wv] w λe w'=>∃D,e=.returned (.slice (some ⟨D,0,none⟩) l.length l.length)/\w.heap.size<=D/\w.grownBy w' none/\kN w' D l.length λk=>!jM ps (gw ws) l k:=by
 obtain⟨yb,yc,rfl,k5,-⟩:=hP.cell;obtain⟨base,cap,rfl,l8,-⟩:=hI.cell;obtain⟨wb,wc,rfl,k9,-⟩:=hW.cell;have b9:∀w,(Instr.makeSlice 61 (.int .i64 l.length) (.int .i64 l.length)).run Tryp.prog w=.ok (.slice (some ⟨w.heap.size,0,none⟩) l.length l.length) (w.alloc (.cells (qcu #[.bool false] l.length) 4)):=λw=>by
  have:=run_make (P:=Tryp.prog) w 61 4 Tryz.t4 (.bool false) (by rw[Tryp.und];exact Tryz.underlying61) (by rw[Qh _ _ Tryp.tables];exact Tryz.type4) rfl .i64 .i64 l.length l.length (by omega) (by omega) (by simp[Tryz.t4];omega) (by omega);simpa[Value.cells,Tryz.t4] using this
 have d6:=q1g b9;go_enter Tryp.func43,Tryz.ntmps43;go_upto_region 2 with(first | rw[d6.out])
 obtain⟨A,hA⟩:∃A,A=w.heap.size:=⟨_,rfl⟩
 have hG:w.grownBy ((w.alloc (.cells #[.slice yb ps.length yc,.int .i64 lim] 24)).alloc (.cells (qcu #[.bool false] l.length) 4)) none:=(q2k _ _ none).trans (q2k _ _ none);have hY:((w.alloc (.cells #[.slice yb ps.length yc,.int .i64 lim] 24)).alloc (.cells (qcu #[.bool false] l.length) 4)).heap[A]?=some (.cells #[.slice yb ps.length yc,.int .i64 lim] 24 (0,0)):=qp (by rw[hA];exact q53 w _);have hR:kN ((w.alloc (.cells #[.slice yb ps.length yc,.int .i64 lim] 24)).alloc (.cells (qcu #[.bool false] l.length) 4)) (A+1) l.length λ_=>false:=by
  have:=kN.made (w.alloc (.cells #[.slice yb ps.length yc,.int .i64 lim] 24)) l.length;rw[q79,<- hA] at this;exact this
 rw[<- hA];show Code.wp _ _ _ _ ((w.alloc (.cells #[.slice yb ps.length yc,.int .i64 lim] 24)).alloc (.cells (qcu #[.bool false] l.length) 4));generalize (w.alloc (.cells #[.slice yb ps.length yc,.int .i64 lim] 24)).alloc (.cells (qcu #[.bool false] l.length) 4)=w1 at hG hY hR ⊢;obtain⟨D,hD⟩:∃D,D=A+1:=⟨_,rfl⟩
 rw[<- hD] at hR ⊢;have m9:¬ A=D:=by omega
 have b7:hi<=D/\A<=D:=by omega
 have e9:=q1g (hI.kept hG (by simp));have e7:=q1g (hP.kept hG (by simp));have e5:=q1g (hW.kept hG (by simp));have HG:=q1g hG;have HY:=q1g hY;have HR:=q1g hR;have HA:=q1g hA;have HX:=q1g hx;have d7:=q1g hg;have g5:=q1g hb;have e4:=q1g hwl;clear hG hY hR hA hD hI hP hW hx hg hb hwl d6 b9;go_wp2;go_loopw [8,9] (λld i wr=>∃(k:Int) (q:Int),i=.int .i64 k/\ld=.int .i64 q/\-1<=k/\k<l.length/\(0<=q/\q<=2000000)/\(0<=k->q=loadAt (gw ws) l k.toNat)/\w1.grownBy wr (some D)/\kN wr D l.length λj=>if k<(j:Int) then !jM ps (gw ws) l j else false) (λ_ i _=>(qaE i+1).toNat)
 case atStart =>
  refine⟨(l.length:Int) - 1,0,rfl,rfl,by omega,by omega,by omega,λh=>?_,q7s _ _,HR.out.congr λi hi=>?_⟩
  ·rw[J4 _ _ _ (by omega)]
  ·rw[if_neg (by omega)]
 case round =>
  obtain⟨k,q,rfl,rfl,m3,l9,hq,a7,hG,hB⟩:=hrel;by_cases hlt:0<=k
  ·obtain⟨n,rfl⟩:∃n:Nat,k=n:=⟨k.toNat,by omega⟩
   have hn:n<l.length:=by omega
   obtain⟨_,_,he,-,hcell⟩:=(e9.out.kept hG (by rintro R e;cases e;exact .inr b7.1)).cell;cases he;obtain⟨B,o,rfl,-,m7,-,d5⟩:=hcell (by intro e;rw[e] at hn;simp at hn);have hp:=d5 n hn;obtain⟨x,hx⟩:∃x,l[n]?=some x:=⟨_,q54 hn⟩
   obtain⟨k7,k6⟩:=HX.out x (q7E hx);rw[hx] at hp;simp only[q70] at hp;obtain⟨m,rfl⟩:∃m:Nat,x=m:=⟨x.toNat,by omega⟩
   have a8:m<ps.length:=by omega
   have l7:(m:Int)<(ps.length:Int):=by omega
   obtain⟨_,_,he,-,Z⟩:=(e7.out.kept hG (by rintro R e;cases e;exact .inr b7.1)).cell;cases he;obtain⟨YB,yo,rfl,-,m4,-,c8⟩:=Z (by intro e;rw[e] at a8;simp at a8);obtain⟨p,b0,-,-,hbr,-⟩:=c8 m a8;obtain⟨_,_,he,-,a6⟩:=(e5.out.kept hG (by rintro R e;cases e;exact .inr b7.1)).cell;cases he;have b6:m<ws.length:=by rw[e4.out];exact a8
   have g7:(m:Int)<(ws.length:Int):=by omega
   obtain⟨WB,wo,rfl,h9,h8,-,c9⟩:=a6 (by intro e;rw[e] at b6;simp at b6);have a9:=c9 m b6;rw[show ws[m]?.getD 0=gw ws m from rfl] at a9;have k8:¬ WB=D:=by omega
   have d9:=d7.out m;have l5:=g5.out p (q7E b0);have y0:=q8 (blk hG (by simp;omega) HY.out) (o:=0) rfl;have c3:=hB.cell (i:=n) hn;have fz:=hB.thaw n;have m6:=hB.lt;have hok:jM ps (gw ws) l n=decide (loadAt (gw ws) l n<=p.bears):=by unfold jM;rw[hx];simp[b0]
   have hst:∀j,j+1=n->loadAt (gw ws) l j=q+gw ws m:=λj hj=>by
    subst hj;rw[J3 _ _ _ _ hx,a7 (by omega)];simp
   rw[show loadAt (gw ws) l n=q by have:=a7 (by omega);simpa using this.symm] at hok;have l4:q<=1000000:=by rw[a7 (by omega)];exact(ZJ _ _ _ d7.out hl).2
   generalize gw ws m=r at a9 hst d9;generalize (if(n:Int)<(n:Int) then !jM ps (gw ws) l n else false)=z at c3;have e6:=q1g hst;have e8:=q1g hok;have b8:=q1g hG;have HB:=q1g hB;have hni:(n:Int)<(l.length:Int):=by omega
   have m8:¬ B=D:=by omega
   have m5:¬ YB=D:=by omega
   clear a7 hG hB hcell d5 Z c8 a6 c9 hx b0 hok hst;by_cases d8:p.bears<q;all_goals
    go_wp2_with (fail);go_still_tail 13,(by kernel_rfl)
    change wpList _ _ _ _ _ wr.drew;have l6:wr.drew.cell? ⟨B,o+n,none⟩=_:=hp;have g9:wr.drew.cell? ⟨YB,yo+m*4+2,none⟩=_:=hbr;have g6:wr.drew.cell? ⟨WB,wo+m,none⟩=_:=a9;have k0:wr.drew.cell? ⟨A,0,none⟩=_:=y0;have g8:wr.drew.cell? ⟨D,n,none⟩=_:=c3;have n2:wr.drew.frozen? ⟨D,n,none⟩=false:=fz;go_wp2;go_roundw
    case rel =>
     refine⟨(n:Int) - 1,q+r,rfl,rfl,by omega,by omega,?_,?_,(b8.out.trans (qb _ _)).trans (qg _ _ _ _),?_⟩
     ·omega
     ·intro h
      exact(e6.out _ (by omega)).symm
     ·refine((HB.out.kept (qb _ none) (by simp)).set (i:=n) (by omega)).congr λj hj=>?_
      by_cases e:j=n
      ·subst e
       rw[if_pos rfl,if_pos (by omega),e8.out];rw[show(!decide (q<=p.bears))=decide (p.bears<q) by rw[<- decide_not,decide_eq_decide];omega];try exact(decide_eq_true d8).symm
      ·by_cases e2:(n:Int)<j
       ·rw[if_neg e,if_pos e2,if_pos (by omega)]
       ·rw[if_neg e,if_neg e2,if_neg (by omega)]
    case measure=>simp[qaE]
  ·have b8:=q1g hG
   have HB:=q1g hB;clear hG hB;go_wp2;go_ret;have hD:=HA.out;exact⟨D,rfl,by omega,HG.out.andThen b8.out (by rintro j e;cases e;exact .inl (by omega)),HB.out.congr λi hi=>by rw[if_pos (by omega)]⟩
theorem Tryp.und36L:Tryp.prog.underlying 36=some (.slice 29):=by rw[Tryp.und];exact Tryz.underlying36
theorem Tryp.info29L:(Tryp.prog.info? 29).map (λi=>(i.zero,i.size,i.bytes))=some (some (.slice none 0 0),1,24):=by kernel_rfl
theorem qe.kept_own{lo hi base n:Nat}{e:q7C}{w w':q2t}{v x:q4m}{l:List Int}{vs:List q4m}(h:qe lo hi w x l)(ho:w.ownsRow base e 1 v n vs)(he:e≠3)(hg:w.grownBy w' v.ownBlock):qe lo hi w' x l:=by
 rcases ho.2 with⟨rfl,-⟩ | ⟨g,cap,cur,rfl,-,hg2,-⟩
 ·exact h.kept hg (by simp[q9F])
 ·obtain⟨b,c,rfl,hl,hr⟩:=h
  refine⟨b,c,rfl,hl,λhne=>?_⟩;obtain⟨B,o,cs,fr,e1,e2,e3,e4,e5⟩:=hr hne;refine⟨B,o,cs,fr,e1,e2,e3,blk hg (λh=>?_) e4,e5⟩;simp[q9F] at h;subst h;rw[e4] at hg2;cases hg2;exact he rfl
def zP(base:Nat)(w:q2t)(v:q4m)(L:List (List Int)):Prop :=
 ∃vs:List q4m,w.ownsRow base 29 1 v L.length vs/\∀(j:Nat) x l,vs[j]?=some x->L[j]?=some l->qe 0 w.heap.size w x l
theorem zP.kept{base:Nat}{w w':q2t}{v:q4m}{L:List (List Int)}(h:zP base w v L)(hg:w.grownBy w' none):zP base w' v L:=by
 obtain⟨vs,h1,h2⟩:=h;exact⟨vs,Y5 h1 hg,λj x l hx hl=>((h2 j x l hx hl).kept hg (by simp)).mono (q4o _) hg.size⟩
theorem zP.nil(base:Nat)(w:q2t):zP base w (.slice none 0 0) []:=⟨[],qbH _ _ _ _,λj x l hx=>by simp at hx⟩
theorem zP.low{base Z:Nat}{w:q2t}{v:q4m}{L:List (List Int)}(h:zP base w v L)(hb:Z<=base):zP Z w v L:=by
 obtain⟨vs,h1,h2⟩:=h;exact⟨vs,Y7 h1 hb,h2⟩
theorem zP.push{base:Nat}{w w':q2t}{v v' x:q4m}{L:List (List Int)}{l:List Int}{vs:List q4m}(h1:w.ownsRow base 29 1 v L.length vs)(h2:∀(j:Nat) x l,vs[j]?=some x->L[j]?=some l->qe 0 w.heap.size w x l)
  (hx:qe 0 w.heap.size w x l) (ho:w'.ownsRow base 29 1 v' (L.length+1) (vs++[x])) (hg:w.grownBy w' v.ownBlock):zP base w' v' (L++[l]):=by
 have Z:vs.length=L.length:=by have:=h1.1;simpa using this
 refine⟨vs++[x],by simpa using ho,λj y m hy hm=>?_⟩;by_cases e:j<L.length
 ·rw[q9c (by omega)] at hy
  rw[q9c e] at hm;exact((h2 j y m hy hm).kept_own h1 (by decide) hg).mono (q4o _) hg.size
 ·rw[qbs (by omega)] at hy hm
  have h0:j - L.length=0:=by
   have:=(q7F.1 hm).1;simp at this;omega
  rw[Z,h0] at hy;rw[h0] at hm;simp at hy hm;subst hy hm;exact(hx.kept_own h1 (by decide) hg).mono (q4o _) hg.size
theorem zP.at{base:Nat}{w:q2t}{v:q4m}{L:List (List Int)}(h:zP base w v L):∃a c,v=.slice a L.length c/\(0<L.length->∃g,a=some ⟨g,0,none⟩/\∀(j:Nat) l,L[j]?=some l->∃x,w.cell? ⟨g,j,none⟩=some x/\qe 0 w.heap.size w x l):=by
 obtain⟨vs,h1,h2⟩:=h;have Z:vs.length=L.length:=by have:=h1.1;simpa using this
 obtain⟨a,c,rfl,h3⟩:=jB h1;refine⟨a,c,rfl,λhp=>?_⟩;obtain⟨g,rfl,-,-,h4⟩:=h3 hp;refine⟨g,rfl,λj l hl=>?_⟩;have hj:=(q7F.1 hl).1;obtain⟨x,hx⟩:∃x,vs[j]?=some x:=⟨_,q54 (by omega)⟩
 exact⟨x,(h4 j hj).trans hx,h2 j x l hx hl⟩
def Ji(hi:Nat)(w:q2t)(v:q4m)(L:List (List Int)):Prop :=
 ∃a c,v=.slice a L.length c/\(0<L.length->∃g,a=some ⟨g,0,none⟩/\g<hi/\(∃cs f,w.heap[g]?=some (.cells cs 29 f))/\∀(j:Nat) l,L[j]?=some l->∃x,w.cell? ⟨g,j,none⟩=some x/\qe 0 hi w x l)
theorem Ji.kept{hi:Nat}{w w':q2t}{v:q4m}{L:List (List Int)}{row:Option Nat}(h:Ji hi w v L)(hg:w.grownBy w' row)(hr:∀R,row=some R->hi<=R):Ji hi w' v L:=by
 obtain⟨a,c,rfl,h1⟩:=h;refine⟨a,c,rfl,λhp=>?_⟩;obtain⟨g,rfl,h2,⟨cs,f,h3⟩,h4⟩:=h1 hp;have hne:some g≠row:=λe=>by have:=hr g e.symm;omega
 refine⟨g,rfl,h2,⟨cs,f,blk hg hne h3⟩,λj l hl=>?_⟩;obtain⟨x,hx,hi⟩:=h4 j l hl;exact⟨x,hg.cell hx hne,hi.kept hg λR e=>.inr (hr R e)⟩
theorem zP.rows{base hi:Nat}{w:q2t}{v:q4m}{L:List (List Int)}(h:zP base w v L)(hhi:w.heap.size<=hi):Ji hi w v L:=by
 obtain⟨vs,h1,h2⟩:=h;have Z:vs.length=L.length:=by have:=h1.1;simpa using this
 rcases h1.2 with⟨rfl,h0⟩ | ⟨g,cap,cur,rfl,hb,hg,-⟩
 ·exact⟨none,0,by rw[h0],λhp=>by omega⟩
 ·refine⟨_,_,rfl,λhp=>⟨g,rfl,by have:=(q3g.1 hg).1;omega,⟨_,_,hg⟩,λj l hl=>?_⟩⟩
  have hj:=(q7F.1 hl).1;obtain⟨x,hx⟩:∃x,vs[j]?=some x:=⟨_,q54 (by omega)⟩
  exact⟨x,(h1.cellAt j (by omega)).trans hx,(h2 j x l hx hl).mono (q4o _) hhi⟩
def Jm(p:Par)(l:List Int)(d:Nat):List (List Int):=(q99 d).map λe=>l++[p.mn+(e:Nat)]
def xI(p:Par):Nat:=(p.mx - p.mn+1).toNat
def stepW(p:Par)(L:List (List Int)):List (List Int):=L.flatMap λl=>Jm p l (xI p)
def qX(ps:List Par):List (List Int):=ps.foldl (λL p=>stepW p L) [[]]
theorem q6l(p:Par)(l:List Int)(d:Nat):Jm p l (d+1)=Jm p l d++[l++[p.mn+(d:Nat)]]:=by simp[Jm,List.range_succ]
theorem q3r(p:Par)(L:List (List Int))(k:Nat)(l:List Int)(h:L[k]?=some l):stepW p (L.take (k+1))=stepW p (L.take k)++Jm p l (xI p):=by
 rw[qao,h];simp[stepW]
theorem kF(ps:List Par)(k:Nat)(p:Par)(h:ps[k]?=some p):qX (ps.take (k+1))=stepW p (qX (ps.take k)):=by
 rw[qao,h];simp[qX]
theorem q23(p:Par)(l:List Int)(d:Nat):(Jm p l d).length=d:=by simp[Jm]
theorem Zx(p:Par)(h:xI p<=3):∀L,(stepW p L).length<=3*L.length
 | []=>by simp[stepW]
 | l::L=>by
  have:=Zx p h L;unfold stepW at this ⊢;rw[qc8,qaG,q23,q7v];omega
theorem QQ(ps:List Par)(h:∀p∈ps,xI p<=3):∀k,(qX (ps.take k)).length<=3 ^ k
 | 0=>by simp[qX]
 | k+1=>by
  have ih:=QQ ps h k;cases e:ps[k]? with
  | none =>
   rw[qao,e,Option.toList_none,List.append_nil];exact q6y ih (Nat.pow_le_pow_right (by decide) (by omega))
  | some p =>
   rw[kF ps k p e,Nat.pow_succ];have:=Zx p (h p (q7E e)) (qX (ps.take k));omega
theorem xV(ps:List Par):∀k,k<=ps.length->∀l∈qX (ps.take k),l.length=k
 | 0,_,l,h=>by simp[qX] at h;simp[h]
 | k+1,hk,l,h=>by
  have hp:ps[k]?=some ps[k]:=q54 (by omega);rw[kF ps k _ hp] at h;obtain⟨m,hm,h2⟩:=List.mem_flatMap.1 h;obtain⟨d,-,rfl⟩:=List.mem_map.1 h2;have:=xV ps k (by omega) m hm;simp[this]
theorem q4D(lo hi:Nat)(yv:q4m)(ps:List Par)(lim:Int)(w:q2t)(hP:qq lo hi w yv ps)(hhi:hi<=w.heap.size)(h5:ps.length<=5)(hp:∀p∈ps,1<=p.mn/\p.mn<=p.mx/\p.mx<=p.mn+2/\p.mx<=12) :
  qa4 Tryp.prog 41 #[.agg #[yv,.int .i64 lim]] w λe w'=>∃v,e=.returned v/\w.grownBy w' none/\zP w.heap.size w' v (qX ps):=by
 obtain⟨yb,yc,rfl,l6,-⟩:=hP.cell;obtain⟨i0,g6,e5,e4,d9⟩:=qcf Tryp.info3p;obtain⟨j0,g5,e8,e7,e6⟩:=qcf Tryp.info29L;go_enter Tryp.func41,Tryz.ntmps41;go_upto_region 2 with(fail)
 obtain⟨A,hA⟩:∃A,A=w.heap.size:=⟨_,rfl⟩
 have hG:w.grownBy ((w.alloc (.cells #[.slice yb ps.length yc,.int .i64 lim] 24)).alloc (.cells #[.slice none 0 0] 29)) none:=(q2k _ _ none).trans (q2k _ _ none);have hY:((w.alloc (.cells #[.slice yb ps.length yc,.int .i64 lim] 24)).alloc (.cells #[.slice none 0 0] 29)).heap[A]?=some (.cells #[.slice yb ps.length yc,.int .i64 lim] 24 (0,0)):=qp (by rw[hA];exact q53 w _);have hR:zP A ((w.alloc (.cells #[.slice yb ps.length yc,.int .i64 lim] 24)).alloc (.cells #[.slice none 0 0] 29)) (.slice (some ⟨A+1,0,none⟩) 1 1) [[]]:=by
  have:=q53 (w.alloc (.cells #[.slice yb ps.length yc,.int .i64 lim] 24)) (.cells #[.slice none 0 0] 29);rw[q79,<- hA] at this;refine⟨[.slice none 0 0],⟨rfl,.inr ⟨A+1,1,_,rfl,by omega,this,q4o _,by decide,rfl,rfl⟩⟩,λj x l hx hl=>?_⟩;have hj:j=0:=by have:=(q7F.1 hx).1;simp at this;omega
  subst hj;cases hx;cases hl;exact .nil _ _ _
 rw[<- hA];show Code.wp _ _ _ _ ((w.alloc (.cells #[.slice yb ps.length yc,.int .i64 lim] 24)).alloc (.cells #[.slice none 0 0] 29));generalize (w.alloc (.cells #[.slice yb ps.length yc,.int .i64 lim] 24)).alloc (.cells #[.slice none 0 0] 29)=w1 at hG hY hR ⊢;have c9:∀p∈ps,xI p<=3:=λp h=>by have:=hp p h;unfold xI;omega
 have k7:=q1g (hP.kept hG (by simp));have HG:=q1g hG;have HY:=q1g hY;have HR:=q1g hR;have HA:=q1g hA;have k5:=q1g hp;have d8:=q1g c9;have m8:A<=w1.heap.size:=by rw[hA];exact hG.size
 clear hG hY hR hA hP hp c9;go_wp2;go_loopw [3,4] (λov iv wr=>∃k:Nat,iv=.int .i64 k/\k<=ps.length/\w1.grownBy wr none/\zP A wr ov (qX (ps.take k))) (λ_ iv _=>(ps.length - qaE iv).toNat)
 case atStart=>exact⟨0,rfl,by omega,q7s _ _,HR.out⟩
 case round =>
  obtain⟨k,rfl,hk,hG,hO⟩:=hrel;obtain⟨U,rfl⟩:∃U,U=wr:=⟨_,rfl⟩
  have y0:=q8 (blk hG (by simp) HY.out) (o:=0) rfl;have a8:=q1g hG;have HO:=q1g hO;clear hG hO;by_cases hlt:k<ps.length
  ·obtain⟨p,a7⟩:∃p,ps[k]?=some p:=⟨_,q54 hlt⟩
   have l9:=k5.out p (q7E a7);have h8:(qX (ps.take k)).length<=81:=q6y (QQ ps d8.out k) (q6y (Nat.pow_le_pow_right (by decide) (show k<=4 by omega)) (by decide));have k6:=q1g a7;have d7:=q1g (kF ps k p a7);have d5:=q1g (xV ps k hk);obtain⟨L,hL⟩:∃L,L=qX (ps.take k):=⟨_,rfl⟩
   rw[<- hL] at h8 HO d7 d5;have g9:xI p<=3:=d8.out p (q7E a7);have m6:(k:Int)<(ps.length:Int):=by omega
   obtain⟨oa,oc,rfl,-⟩:=HO.out.at;clear hL a7;go_wp2;go_loopw [5,6] (λnv mv wi=>∃m:Nat,mv=.int .i64 m/\m<=L.length/\U.grownBy wi none/\zP U.heap.size wi nv (stepW p (L.take m))) (λ_ mv _=>(L.length - qaE mv).toNat)
   case atStart=>exact⟨0,rfl,by omega,q7s _ _,by simpa[stepW] using zP.nil _ _⟩
   case round =>
    obtain⟨m,rfl,hm,hG,hN⟩:=hrel;have a9:=q1g hG;have HN:=q1g hN;have y1:=hG.cell y0 (by simp);clear hG hN;by_cases e9:m<L.length
    ·obtain⟨l,hl⟩:∃l,L[m]?=some l:=⟨_,q54 e9⟩
     have h9:=q1g (q3r p L m l hl);have k8:(stepW p (L.take m)).length<=243:=q6y (Zx p g9 _) (by simp;omega);have HL:=q1g hl;have m4:(m:Int)<(L.length:Int):=by omega
     obtain⟨l5,l4,ey,-,b7⟩:=(k7.out.kept a8.out (by simp)).cell;injection ey with ey1 _ ey3;subst ey1 ey3;obtain⟨YB,yo,rfl,-,-,-,a6⟩:=b7 (by intro e;rw[e] at hlt;simp at hlt);obtain⟨p',b9,p0,p1,-,-⟩:=a6 k hlt;rw[k6.out] at b9;cases b9;have P0:=q1g p0;have P1:=q1g p1;replace p0:=a9.out.cell p0 (by simp);replace p1:=a9.out.cell p1 (by simp);clear b7 a6 hl;go_wp2;go_loopw [5,7] (λnv dv wj=>∃d:Nat,dv=.int .i64 (p.mn+d)/\d<=xI p/\U.grownBy wj none/\zP U.heap.size wj nv (stepW p (L.take m)++Jm p l d)) (λ_ dv _=>(p.mn+xI p - qaE dv).toNat)
     case atStart=>exact⟨0,by simp,by omega,a9.out,by simpa[Jm] using HN.out⟩
     case round =>
      obtain⟨d,rfl,hd,hG,hN⟩:=hrel;have y2:=hG.cell y0 (by simp);have p0:=hG.cell P0.out (by simp);have p1:=hG.cell P1.out (by simp);have d6:=q1g hG;obtain⟨vs,hO,hI⟩:=hN;obtain⟨na,nc,rfl,-⟩:=jB hO;by_cases c8:d<xI p
      ·have hle:p.mn+d<=p.mx:=by unfold xI at c8;omega
       have g8:=(HO.out.kept hG).at;obtain⟨_,_,er,hr⟩:=g8;injection er with er1 _ er3;subst er1 er3;obtain⟨g,rfl,b0⟩:=hr (by omega);obtain⟨x,hx,b8⟩:=b0 m l HL.out;have m5:l.length<=5:=by have:=d5.out l (q7E HL.out);omega
       have hS:=q6l p l d;obtain⟨M,hM⟩:∃M,M=stepW p (L.take m)++Jm p l d:=⟨_,rfl⟩
       have m7:M.length<=246:=by rw[hM,qaG,q23];omega
       have HS:=q1g (show stepW p (L.take m)++Jm p l (d+1)=M++[l++[p.mn+(d:Nat)]] by rw[hS,<- qbG,<- hM]);rw[<- hM] at hO hI ⊢;have HI:=q1g hI;have b6:=q1g hO;have HX:=q1g b8;have g7:=hG.size;have k9:=a8.out.size;have m9:U.heap.size<=wr.heap.size:=g7;have m3:1<=p.mn/\p.mn+d<=12:=by omega
       clear hG hI hO b0 hr b8 hM hS;go_wp2_with (first
        | (go_at_call 28;refine(q9m 0 _ _ l _ HX.out (q4o _) (by omega)).mono ?_;rintro e w3 ⟨kv,rfl,hg,hk⟩;obtain⟨ka,kc,rfl,-⟩:=jB hk;have KO:=q1g hk;have G3:=q1g hg;have l8:=hg.size;clear hg hk)
        | (at_builtin;(refine wpList_append_own _ rfl _ _ 29 rfl wr.heap.size 3 i0 _ 1 8 Tryp.und29' g6 e5 e4 d9 rfl (by decide) (.slice ka l.length kc) l.length _ rfl (KO.out.alloc _) ⟨w3.heap.size,0,none⟩ 1 1 [.int .i64 (p.mn+d)] rfl rfl (qbg (cs:=#[.int .i64 (p.mn+d)]) (t:=3) (fr:=(0,0)) (q53 w3 _)) (by simp[qc7]) (by unfold maxLen;omega) (by omega) (by simp;omega) ?_);intro v4 w4 hown Z _;obtain⟨g4,c4,rfl⟩:=ownsRow_succ hown;have XO:=q1g (qe.own (l:=l++[p.mn+(d:Nat)]) (by simpa using hown) (by simp;omega));have G4:=q1g (World.grownBy.andThen (row:=none) (G3.out.trans (q2k _ _ none)) Z (λj e=>.inl (KO.out.lt j e).1));have l7:=G4.out.size;clear hown Z)
        | (at_builtin;(refine wpList_append_own _ rfl _ _ 36 rfl U.heap.size 29 j0 _ 1 24 Tryp.und36L g5 e8 e7 e6 rfl (by decide) (.slice na M.length nc) M.length vs rfl ((b6.out.kept G4.out (Classical.em _)).alloc _) ⟨w4.heap.size,0,none⟩ 1 1 [.slice (some ⟨g4,0,none⟩) (l.length+1) c4] rfl rfl (qbg (cs:=#[.slice (some ⟨g4,0,none⟩) (l.length+1) c4]) (t:=29) (fr:=(0,0)) (q53 w4 _)) (by simp[qc7]) (by unfold maxLen;omega) (by omega) (by simp;omega) ?_);intro v5 w5 hown Z _;have k0:=q1g (zP.push ((b6.out.kept G4.out (Classical.em _)).alloc (.cells #[.slice (some ⟨g4,0,none⟩) (l.length+1) c4] 29)) (λj x q hx hq=>((HI.out j x q hx hq).kept (G4.out.trans (q2k _ _ none)) (by simp)).mono (q4o _) (G4.out.trans (q2k _ _ none)).size) ((by simpa using XO.out.alloc _:qe _ _ _ (.slice (some ⟨g4,0,none⟩) (l.length+1) c4) (l++[p.mn+(d:Nat)])).mono (q9t _) (by simp)) hown Z);have G5:=q1g (World.grownBy.andThen (row:=none) (d6.out.trans (G4.out.trans (q2k _ (.cells #[.slice (some ⟨g4,0,none⟩) (l.length+1) c4] 29) none))) Z (λj e=>.inl (b6.out.lt j e).1));clear hown Z))
       go_roundw
       case rel=>exact⟨d+1,by simp;omega,by omega,G5.out,by rw[HS.out];exact k0.out⟩
       case measure=>simp[qaE];omega
      ·have c3:d=xI p:=by omega
       have hle:¬ p.mn+d<=p.mx:=by unfold xI at c8;omega
       subst c3;have HN:=q1g (show zP U.heap.size wr (.slice na _ nc) (stepW p (L.take m)++Jm p l (xI p)) from⟨vs,hO,hI⟩);clear hG hI hO;go_wp2;go_roundw
       case rel=>exact⟨m+1,by simp,by omega,d6.out,by rw[h9.out];exact HN.out⟩
       case measure=>simp[qaE];omega
    ·obtain rfl:m=L.length:=by omega
     go_wp2;go_roundw
     case rel=>exact⟨k+1,by simp,by omega,a8.out.trans a9.out,by rw[d7.out];exact(by simpa using HN.out:zP U.heap.size _ _ (stepW p L)).low (by have:=a8.out.size;omega)⟩
     case measure=>simp[qaE];omega
  ·obtain rfl:k=ps.length:=by omega
   go_wp2;go_ret;have h1:=HO.out;rw[qb2] at h1;exact⟨_,rfl,HG.out.trans a8.out,h1.low (Nat.le_of_eq HA.out.symm)⟩
end Go.Proofs.YtidgnkmjgioapaaGreat
end
section
namespace Go.Proofs.YtidgnkmjgioapaaGreat
theorem gw_left{l m:List Int}{n:Nat}(h:n<l.length):gw (l++m) n=gw l n:=by unfold gw;rw[q9c h]
theorem gw_last(l:List Int)(x:Int):gw (l++[x]) l.length=x:=by unfold gw;simp
theorem km(ps:List Par)(hp:∀p∈ps,p.mn<=p.mx):∀k,k<=ps.length->∀ws,ws∈qX (ps.take k)↔ws.length=k/\∀n p,n<k->ps[n]?=some p->p.mn<=gw ws n/\gw ws n<=p.mx
 | 0,_,ws=>by simp[qX]
 | k+1,hk,ws=>by
  have a6:ps[k]?=some ps[k]:=q54 (by omega);have hle:=hp _ (List.getElem_mem (show k<ps.length by omega));generalize ps[k]=q at a6 hle;rw[kF ps k q a6];constructor
  ·intro h
   obtain⟨l,hl,h2⟩:=List.mem_flatMap.1 h;obtain⟨d,hd,rfl⟩:=List.mem_map.1 h2;have hd:=qbr.1 hd;unfold xI at hd;obtain⟨h3,h4⟩:=(km ps hp k (by omega) l).1 hl;refine⟨by simp[h3],λn p hn Z=>?_⟩;by_cases e:n<k
   ·rw[gw_left (by omega)];exact h4 n p e Z
   ·obtain rfl:n=k:=by omega
    rw[a6] at Z;cases Z;subst h3;rw[gw_last];omega
  ·rintro⟨h1,h2⟩
   have a7:k<ws.length:=by omega
   have hx:ws[k]?=some ws[k]:=q54 a7;have hg:=h2 k q (by omega) a6;have a8:gw ws k=ws[k]:=by unfold gw;rw[hx];rfl
   rw[a8] at hg;refine List.mem_flatMap.2 ⟨ws.take k,(km ps hp k (by omega) _).2 ⟨by simp;omega,λn p hn Z=>?_⟩,List.mem_map.2 ⟨(ws[k] - q.mn).toNat,qbr.2 (by unfold xI;omega),?_⟩⟩
   ·have:=h2 n p (by omega) Z
    unfold gw at this ⊢
    rwa [List.getElem?_take_of_lt hn]
   ·rw[show q.mn+((ws[k] - q.mn).toNat:Nat)=ws[k] by omega]
    have h3:=List.take_append_getElem a7;rw[h3,show k+1=ws.length by omega,qb2]
theorem q0C(ps:List Par)(f:Par->Int):gw (ps.map f)=pre f ps ps.length:=by
 funext i
 unfold gw pre;rw[qbv];by_cases h:i<ps.length
 ·rw[if_pos h,q54 h];rfl
 ·rw[if_neg h,qbl (by omega)];rfl
theorem vA{ps:List Par}(hp:∀p∈ps,p.mn<=p.mx){ws:List Int}(h:ws∈qX ps)(i:Nat):pre Par.mn ps ps.length i<=gw ws i/\gw ws i<=pre Par.mx ps ps.length i:=by
 obtain⟨h1,h2⟩:=(km ps hp ps.length (q4o _) ws).1 (by rwa [qb2]);unfold pre;by_cases hi:i<ps.length
 ·rw[if_pos hi,if_pos hi,q54 hi]
  exact h2 i _ hi (q54 hi)
 ·rw[if_neg hi,if_neg hi]
  unfold gw;rw[qbl (by omega)];exact⟨Int.le_refl _,Int.le_refl _⟩
theorem YG{ps:List Par}(hp:∀p∈ps,p.mn<=p.mx):ps.map Par.mn∈qX ps:=by
 have:=(km ps hp ps.length (q4o _) (ps.map Par.mn)).2 ⟨by simp,λn p hn h=>by
  have hm:=hp p (q7E h);unfold gw;rw[qbv,h];exact⟨Int.le_refl _,hm⟩⟩
 rwa [qb2] at this
theorem YH{ps:List Par}(hp:∀p∈ps,p.mn<=p.mx):ps.map Par.mx∈qX ps:=by
 have:=(km ps hp ps.length (q4o _) (ps.map Par.mx)).2 ⟨by simp,λn p hn h=>by
  have hm:=hp p (q7E h);unfold gw;rw[qbv,h];exact⟨hm,Int.le_refl _⟩⟩
 rwa [qb2] at this
theorem q20{α:Type}(all:List α)(P:α->Bool)(pm px:Bool)(h1:∃a∈all,P a=pm)(h2:∃a∈all,P a=px)(h3:∀a∈all,(pm=true->P a=true)/\(P a=true->px=true)):q0f pm px=kB (all.countP P) all.length:=by
 obtain⟨a,ha,ea⟩:=h1;obtain⟨c,hc,ec⟩:=h2;have hl:0<all.length:=List.length_pos_iff.2 (λe=>by rw[e] at ha;cases ha);have hle:=List.countP_le_length (p:=P) (l:=all);unfold kB;cases px with
 | false =>
  have h0:all.countP P=0:=List.countP_eq_zero.2 λx hx hP=>by have:=(h3 x hx).2 hP;cases this
  have Z:pm=false:=by
   cases pm with
   | false=>rfl
   | true=>have:=(h3 a ha).2 ea;cases this
  rw[Z,h0];rfl
 | true =>
  have hc0:0<all.countP P:=List.countP_pos_iff.2 ⟨c,hc,ec⟩;rw[if_neg (by omega)];cases pm with
  | true =>
   have:all.countP P=all.length:=List.countP_eq_length.2 λx hx=>(h3 x hx).1 rfl;rw[this,if_pos rfl];rfl
  | false =>
   have:all.countP P≠all.length:=λe=>by
    have:=List.countP_eq_length.1 e a ha;rw[ea] at this;cases this
   rw[if_neg (by omega)];rfl
theorem q66(a b:Bool):q0f a b=q0f b a:=by cases a<;>cases b<;>rfl
theorem q7p{ps:List Par}(hp:∀p∈ps,p.mn<=p.mx)(l:List Int)(k:Nat):Qf ps (pre Par.mn ps ps.length) (pre Par.mx ps ps.length) l k=kB ((qX ps).countP λws=>!jM ps (gw ws) l k) (qX ps).length:=by
 refine q20 _ _ _ _ ⟨_,YG hp,by rw[q0C]⟩ ⟨_,YH hp,by rw[q0C]⟩ λws h=>⟨λh1=>?_,λh1=>?_⟩
 ·cases e:jM ps (gw ws) l k with
  | false=>rfl
  | true=>rw[ZF (λi=>(vA hp h i).1) e] at h1;cases h1
 ·cases e:jM ps (pre Par.mx ps ps.length) l k with
  | false=>rfl
  | true=>rw[ZF (λi=>(vA hp h i).2) e] at h1;cases h1
theorem q51{ps:List Par}(hp:∀p∈ps,p.mn<=p.mx)(l:List Int):vF ps l=kB ((qX ps).countP λws=>qr ps (gw ws) l) (qX ps).length:=by
 unfold vF;rw[q66];exact q20 _ _ _ _ ⟨_,YH hp,by rw[q0C]⟩ ⟨_,YG hp,by rw[q0C]⟩ λws h=>⟨QX λi=>(vA hp h i).2,QX λi=>(vA hp h i).1⟩
def xT(ps:List Par)(l:List Int)(all:List (List Int))(i k:Nat):Nat:=(all.take i).countP λws=>!jM ps (gw ws) l k
def ZL(ps:List Par)(l:List Int)(all:List (List Int))(i:Nat):Nat:=(all.take i).countP λws=>qr ps (gw ws) l
theorem q7c(ps:List Par)(l:List Int)(all:List (List Int))(i k:Nat)(ws:List Int)(h:all[i]?=some ws):xT ps l all (i+1) k=xT ps l all i k+if jM ps (gw ws) l k then 0 else 1:=by
 unfold xT;rw[qao,h,List.countP_append];cases e:jM ps (gw ws) l k<;>simp[e]
theorem q72(ps:List Par)(l:List Int)(all:List (List Int))(i:Nat)(ws:List Int)(h:all[i]?=some ws):ZL ps l all (i+1)=ZL ps l all i+if qr ps (gw ws) l then 1 else 0:=by
 unfold ZL;rw[qao,h,List.countP_append];cases e:qr ps (gw ws) l<;>simp[e]
theorem cntW_le(ps:List Par)(l:List Int)(all:List (List Int))(i k:Nat):xT ps l all i k<=i:=q6y List.countP_le_length (by simp;omega)
theorem finW_le(ps:List Par)(l:List Int)(all:List (List Int))(i:Nat):ZL ps l all i<=i:=q6y List.countP_le_length (by simp;omega)
def xC(ps:List Par)(g:Nat->Int)(l:List Int)(k:Nat):Bool:=!(q99 k).all (jM ps g l)
theorem q41(ps:List Par)(g:Nat->Int)(l:List Int)(k:Nat):xC ps g l (k+1)=(xC ps g l k || !jM ps g l k):=by
 unfold xC;rw[List.range_succ,List.all_append];cases(q99 k).all (jM ps g l)<;>simp
theorem qab{ps:List Par}(hp:∀p∈ps,p.mn<=p.mx)(l:List Int)(k:Nat):Qf ps (pre Par.mn ps ps.length) (pre Par.mx ps ps.length) l k=kB (xT ps l (qX ps) (qX ps).length k) (qX ps).length:=by
 unfold xT;rw[qb2];exact q7p hp l k
theorem q9y{ps:List Par}(hp:∀p∈ps,p.mn<=p.mx)(l:List Int):vF ps l=kB (ZL ps l (qX ps) (qX ps).length) (qX ps).length:=by
 unfold ZL;rw[qb2];exact q51 hp l
end Go.Proofs.YtidgnkmjgioapaaGreat
end
section
namespace Go.Proofs.YtidgnkmjgioapaaGreat
open Go Go.RowKit Go.Co Go.Sim Go.Conc Go.ConcN
section
variable[J:JunkSet]{Post:q4m->q2t->Prop}{W:q2t}
theorem el16(D:Two Tryp.prog q7y)(hok:JunkSet.okf 137)(t4:∀i,¬ JunkSet.jk i)(hin:Tryp.prog.inits.idxOf? 16=none)(q6:Tryz.prog.inits.idxOf? 16=none){base:Option qaz}{len cap:Nat}
  {wq:q2t} (hl:(len:Int)<=9223372036854775807) (hr:0<len->∃lb lo,base=some ⟨lb,lo,none⟩/\∀i,i<len->∃x,wq.cell? ⟨lb,lo+i,none⟩=some (.int .i64 x)) (h0:qQ wq 0)
  (k0:∀w,(∀j,j<W.heap.size->w.heap[j]?=W.heap[j]?)->w.os=W.os->w.output=W.output->W.heap.size<=w.heap.size->Post (.bool true) w) :
  EL Tryp.prog q7y 16 Post W (G (q9E Tryp.prog 16 #[.slice base len cap] .normal) [qj 16]) wq:=by
 have hs:Tryp.prog.funcs[(q8f 16).fn]?=Tryz.prog.funcs[(q8f 16).fn]?:=z9 16 (by decide);have hb:Bot 16 [qj 16]:=⟨[],rfl⟩
 rw[q6z (fn:=Tryz.f16) (c0:=Tryz.f16.body.getD .skip) Tryp.func16 (by kernel_rfl)];simp only[Tryz.f16,q70];walk_nrm;refine EL.seq D hb hs ?_;refine EL.piece D hb hs λT=>?_;go_wp2;refine EL.tape (wq:=wq) ?_ T;refine EL.seq D hb hs ?_;refine EL.piece D hb hs λT=>?_;have HR:=q1g hr;clear hr;go_wp2_with (first
  | (go_at_call 24;refine(q4h base len cap (wq.tp T) hl HR.out).mono ?_;rintro e w2 ⟨rfl,hg2,n3⟩;have G2:=q1g hg2;have T2:=q1g n3;clear hg2 n3))
 obtain⟨b,m3⟩:∃b,b=(wq.tp T).heap.size:=⟨_,rfl⟩
 rw[<- m3] at T2 ⊢;have s8:=q1g (show b=wq.heap.size from m3);refine j6 (λu=>(wq.tp u.tape).grownBy u none/\qR u b 0) ⟨tpg G2.out,T2.out⟩ λu1 hF=>?_;obtain⟨g1,t1⟩:=hF;clear G2 T2 m3 HR;refine EL.seq D hb hs ?_;refine EL.piece D hb hs λT=>?_;go_wp2_with (first
  | (go_at_call 33;refine(q3i b 0 4 (u1.tp T) t1 (by omega) (by omega)).mono ?_;rintro e w2 ⟨ps,lim,yv,m7,rfl,q3,k5⟩;have N2:=q1g q3;have P2:=q1g k5;have YD:=q1g m7;obtain⟨yb,yc,rfl,-,-⟩:=k5.cell;clear q3 k5 m7))
 obtain⟨X,hX⟩:∃X,X=w2.heap.size:=⟨_,rfl⟩
 rw[<- hX];have r9:b<u1.heap.size:=t1.lt;have Z:=q2k w2 (.cells #[.slice yb ps.length yc,.int .i64 lim] 24) none;refine j6 (λq=>(wq.tp q.tape).grownBy q none/\qR q b 31/\q.heap[X]?=some (.cells #[.slice yb ps.length yc,.int .i64 lim] 24 (0,0))/\qq u1.heap.size q.heap.size q (.slice yb ps.length yc) ps) ⟨gb (gnew g1 (tpg N2.out.1) (Nat.le_of_eq s8.out.symm)) (tpg (T:=w2.tape) Z),N2.out.2.alloc _,by rw[hX];exact q53 _ _,(P2.out.alloc _).mono (q4o _) Z.size⟩ λu2 hF=>?_;obtain⟨g2,t2,x2,p2⟩:=hF;have e7:=YD.out.yok (by decide);have a6:=q1g e7;have q1:∀p∈ps,1<=p.mn/\p.mn<=p.mx/\p.mx<=p.mn+2/\p.mx<=12:=λp hp=>by have q:=YD.out.each p hp;exact⟨q.a,q.c,q.d,by have:=q.b;have:=q.d;omega⟩
 have t8:ps.length<=4:=YD.out.len;have e5:=q1g q1;clear Z N2 P2 hX g1 t1 YD e7 q1;refine EL.seq D hb hs ?_;refine EL.piece D hb hs λT=>?_;have c0:=q8 (w:=u2.tp T) x2 (o:=0) rfl;have c1:=q8 (w:=u2.tp T) x2 (o:=1) rfl;go_wp2_with (first
  | (go_at_call 34;refine(q4l b 31 u1.heap.size _ ps lim (u2.tp T) t2 (by omega) p2 r9 a6.out.len (by have:=a6.out.l1;omega) (by have:=a6.out.l2;omega) (λp hp=>by have:=a6.out.each p hp;omega)).mono ?_;rintro e w3 ⟨l,lv,q0,rfl,q2,k6,b9⟩;have N3:=q1g q2;have I3:=q1g k6;have PK:=q1g q0;obtain⟨lb,lc,rfl,-,-⟩:=k6.cell;have v3:=q1g (b9 _ _ _ rfl);clear q2 k6 q0 b9))
 have s1:b≠X:=λe=>by
  have h:=x2;obtain⟨_,_,_,_,_,_,t6,_⟩:=t2;rw[<- e,t6] at h;injection h with h;injection h with _ h _;exact absurd h (by decide)
 refine j6 (λq=>(wq.tp q.tape).grownBy q none/\q.heap[X]?=some (.cells #[.slice yb ps.length yc,.int .i64 lim] 24 (0,0))/\qq 0 q.heap.size q (.slice yb ps.length yc) ps/\qe 0 q.heap.size q (.slice lb l.length lc) l) ⟨gnew g2 (tpg N3.out.1) (Nat.le_of_eq s8.out.symm),blk (w:=u2.tp T) N3.out.1 (by simpa using s1.symm) x2,(qq.kept (w:=u2.tp T) p2 N3.out.1 (λR e=>by cases e;exact .inl r9)).mono (q9t _) N3.out.1.size,I3.out.mono (q9t _) (q4o _)⟩ λu3 hF=>?_;obtain⟨g3,x3,p3,l3⟩:=hF;clear N3 I3 g2 t2 x2 p2 c0 c1 s1;refine EL.seq D hb hs ?_;refine EL.piece D hb hs λT=>?_;have c0:=q8 (w:=u3.tp T) x3 (o:=0) rfl;have c1:=q8 (w:=u3.tp T) x3 (o:=1) rfl;go_wp2_with (first
  | (go_at_call 41;refine(q4D 0 u3.heap.size _ ps lim (u3.tp T) p3 (q4o _) a6.out.len e5.out).mono ?_;rintro e w4 ⟨av,rfl,r7,h9⟩;have G4:=q1g r7;have R4:=q1g h9;obtain⟨ab,ac,rfl,-⟩:=h9.at;clear r7 h9))
 obtain⟨all,b0⟩:∃all,all=qX ps:=⟨_,rfl⟩
 rw[<- b0] at R4 ⊢;have d7:=q1g b0;have v7:all.length<=81:=by
  rw[b0];have h:=QQ ps (λp h=>by have:=e5.out p h;unfold xI;omega) ps.length;rw[qb2] at h;exact q6y h (q6y (Nat.pow_le_pow_right (by decide) t8) (by decide))
 clear b0;refine j6 (λq=>(wq.tp q.tape).grownBy q none/\q.heap[X]?=some (.cells #[.slice yb ps.length yc,.int .i64 lim] 24 (0,0))/\qq 0 q.heap.size q (.slice yb ps.length yc) ps/\qe 0 q.heap.size q (.slice lb l.length lc) l/\zP u3.heap.size q (.slice ab all.length ac) all) ⟨gb g3 (tpg G4.out),blk (w:=u3.tp T) G4.out (by simp) x3,(qq.kept (w:=u3.tp T) p3 G4.out (by simp)).mono (q4o _) G4.out.size,l3.kn G4.out,R4.out⟩ λu4 hF=>?_;obtain⟨g4,x4,p4,l4,r4⟩:=hF;clear G4 R4 g3 x3 p3 l3 c0 c1;have v4:l.length<=100:=PK.out.len;refine EL.seq D hb hs ?_;refine EL.piece D hb hs λT=>?_;have q4:∀w,(Instr.makeSlice 29 (.int .i64 l.length) (.int .i64 l.length)).run Tryp.prog w=.ok (.slice (some ⟨w.heap.size,0,none⟩) l.length l.length) (w.alloc (.cells (qcu #[.int .i64 0] l.length) 3)):=λw=>by
  have:=run_make (P:=Tryp.prog) w 29 3 Tryz.t3 (.int .i64 0) (by rw[Tryp.und];exact Tryz.underlying29) (by rw[Qh _ _ Tryp.tables];exact Tryz.type3) rfl .i64 .i64 l.length l.length (by omega) (by omega) (by simp[Tryz.t3];omega) (by omega);simpa[Value.cells,Tryz.t3] using this
 have s6:=q1g q4;clear q4;go_wp2_with (first | rw[s6.out]);obtain⟨C,hC⟩:∃C,C=(u4.tp T).heap.size:=⟨_,rfl⟩
 have Z:=q2k (u4.tp T) (.cells (qcu #[.int .i64 0] l.length) 3) none;have h8:=zV.made (u4.tp T) l.length;rw[<- hC] at h8 ⊢;have m4:0<=C/\u4.heap.size=C:=⟨q9t _,hC.symm⟩
 have hsz:C<((u4.tp T).alloc (.cells (qcu #[.int .i64 0] l.length) 3)).heap.size:=by rw[q79,hC];exact Nat.lt_succ_self _
 refine j6 (λq=>(wq.tp q.tape).grownBy q none/\q.heap[X]?=some (.cells #[.slice yb ps.length yc,.int .i64 lim] 24 (0,0))/\(qq 0 C q (.slice yb ps.length yc) ps/\qe 0 C q (.slice lb l.length lc) l)/\Ji C q (.slice ab all.length ac) all/\zV q C l.length (λ_=>0)/\wq.heap.size<=C/\C<q.heap.size/\X<C) ⟨gb g4 (tpg Z),blk (w:=u4.tp T) Z (by simp) x4,⟨(qq.kept (w:=u4.tp T) p4 Z (by simp)).mono (q4o _) (Nat.le_of_eq m4.2),(qe.kept (w:=u4.tp T) l4 Z (by simp)).mono (q4o _) (Nat.le_of_eq m4.2)⟩,Ji.kept (zP.rows (w:=u4.tp T) r4 (Nat.le_of_eq hC.symm)) Z (by simp),h8,by rw[hC];exact g4.size,hsz,by rw[hC];exact(q3g.1 x4).1⟩ λu5 hF=>?_;obtain⟨g5,x5,⟨p5,l5⟩,r5,n5,n2,s3,v8⟩:=hF;clear Z h8 hC g4 x4 p4 l4 r4 s6 m4 hsz;refine EL.seq D hb hs ?_;refine EL.piece D hb hs λT=>?_;have c3:¬ X=C:=by omega
 have n9:∀w,(u5.tp T).grownBy w (some C)->w.cell? ⟨X,0,none⟩=some (.slice yb ps.length yc)/\w.cell? ⟨X,1,none⟩=some (.int .i64 lim):=λw h=>⟨q8 (blk h (by simpa using c3) (show(u5.tp T).heap[X]?=_ from x5)) rfl,q8 (blk h (by simpa using c3) (show(u5.tp T).heap[X]?=_ from x5)) rfl⟩
 have p9:∀w,(u5.tp T).grownBy w (some C)->qq 0 C w (.slice yb ps.length yc) ps:=λw h=>qq.kept (w:=u5.tp T) p5 h (by rintro R e;cases e;exact .inr (q4o _));have q5:∀w,(u5.tp T).grownBy w (some C)->qe 0 C w (.slice lb l.length lc) l:=λw h=>qe.kept (w:=u5.tp T) l5 h (by rintro R e;cases e;exact .inr (q4o _));have hrr:∀w,(u5.tp T).grownBy w (some C)->Ji C w (.slice ab all.length ac) all:=λw h=>Ji.kept (w:=u5.tp T) r5 h (by rintro R e;cases e;exact q4o _);have m8:∀w,(u5.tp T).grownBy w (some C)->w.heap[X]?=some (.cells #[.slice yb ps.length yc,.int .i64 lim] 24 (0,0)):=λw h=>blk h (by simpa using c3) (show(u5.tp T).heap[X]?=_ from x5);have XR:=q1g m8;clear m8;have SC:=q1g n9;have PR:=q1g p9;have LR:=q1g q5;have RR:=q1g hrr;have N5:=q1g (show zV (u5.tp T) C l.length (λ_=>0) from n5);have G5:=q1g g5;have m6:=q1g (show C<(u5.tp T).heap.size from s3);have v0:=q1g n2;have d5:=q1g (show ∀ws∈all,ws.length=ps.length/\∀i,0<=gw ws i/\gw ws i<=1000 by
  rw[d7.out];intro ws h;have a7:∀p∈ps,p.mn<=p.mx:=λp hp=>(e5.out p hp).2.1;refine⟨by have:=xV ps ps.length (q4o _) ws (by rwa [qb2]);exact this,λi=>?_⟩;have h1:=vA a7 h i;have h2:=a6.out.mn i;have h3:=a6.out.mx i;omega)
 clear n9 p9 q5 hrr p5 l5 x5 r5 n5 g5 s3 n2;go_wp2;go_loopw [8,9] (λfv iv wr=>∃i:Nat,iv=.int .i64 i/\i<=all.length/\fv=.int .i64 (ZL ps l all i)/\(u5.tp T).grownBy wr (some C)/\zV wr C l.length (λk=>xT ps l all i k)) (λ_ iv _=>(all.length - qaE iv).toNat)
 case atStart=>exact⟨0,rfl,by omega,by simp[ZL],q7s _ _,N5.out.congr λi _=>by simp[xT]⟩
 case round =>
  obtain⟨i,rfl,hi,rfl,hG,hN⟩:=hrel;have a8:=q1g hG;have HN:=q1g hN;have d8:C<wr.heap.size:=q7t m6.out hG.size;obtain⟨c0,c1⟩:=SC.out _ hG;by_cases hlt:i<all.length
  ·obtain⟨ws,e9⟩:∃ws,all[i]?=some ws:=⟨_,q54 hlt⟩
   have v5:(i:Int)<(all.length:Int):=by omega
   obtain⟨_,_,ea,s2⟩:=RR.out _ hG;injection ea with ea1 _ ea3;subst ea1 ea3;obtain⟨AB,rfl,-,-,e6⟩:=s2 (by omega);obtain⟨x,hx,m9⟩:=e6 i ws e9;have HX:=q1g m9;have d9:=q1g e9;clear hG hN s2 e6 m9 e9;go_upto_region 9 with(fail)
   go_still_tail 6,(by kernel_rfl)
   change wpList _ _ _ _ _ wr.drew;have u0:wr.drew.cell? ⟨X,0,none⟩=_:=c0;have t9:wr.drew.cell? ⟨X,1,none⟩=_:=c1;have hx':wr.drew.cell? ⟨AB,i,none⟩=_:=hx;go_wp2_with (first
    | (go_at_call 43;refine(q33 0 C _ _ _ ps lim l ws _ (PR.out _ (a8.out.trans (qb _ _))) (LR.out _ (a8.out.trans (qb _ _))) (HX.out.kept (qb _ none) (by simp)) (Nat.le_of_lt d8) PK.out.ok (by omega) (d5.out ws (q7E d9.out)).1 (d5.out ws (q7E d9.out)).2 (λp hp=>by have:=a6.out.each p hp;omega)).mono ?_;rintro e w6 ⟨Dd,rfl,hD,hg,p8⟩;have r6:=a8.out.trans ((World.grownBy.andThen (row:=some C) (q7s wr (some C)) (qb wr none) (by simp)).andThen hg (by simp));have H6:=q1g r6;have s4:=q1g p8;have N6:=q1g (HN.out.kept ((qb wr none).trans hg) (by simp));clear hg r6 p8))
   have t7:¬ Dd=C:=by have h1:wr.heap.size<=Dd:=hD;omega
   have v9:C<w6.heap.size:=q7t m6.out H6.out.size;have x0:=q1g (show Dd<w6.heap.size from s4.out.lt);clear c0 c1 u0 t9 hx hx';go_loopw [11,12] (λsv kv wj=>∃k:Nat,kv=.int .i64 k/\k<=l.length/\sv=.bool (xC ps (gw ws) l k)/\w6.grownBy wj (some C)/\zV wj C l.length (λj=>((if j<k then xT ps l all (i+1) j else xT ps l all i j:Nat):Int))) (λ_ kv _=>(l.length - qaE kv).toNat)
   case atStart=>exact⟨0,rfl,by omega,by simp[xC],q7s _ _,N6.out.congr λj _=>by simp⟩
   case round =>
    obtain⟨k,rfl,hk,rfl,hG,hN⟩:=hrel;have HG:=q1g hG;have c8:=q1g hN;by_cases b6:k<l.length
    ·have hb:=(s4.out.kept hG (by simpa using t7)).cell b6
     have hn:=hN.cell b6;have hz:=hN.thaw k;have s9:(k:Int)<(l.length:Int):=by omega
     rw[if_neg (qdi k)] at hn;have b7:=q1g (q41 ps (gw ws) l k);have d6:=q1g (q7c ps l all i k ws d9.out);have hcl:=cntW_le ps l all i k;have x8:=q1g (show C<wr.heap.size from c8.out.lt);clear hG hN;cases hok:jM ps (gw ws) l k with
     | true =>
      rw[hok] at hb b7 d6;have e4:=q1g (show xC ps (gw ws) l (k+1)=xC ps (gw ws) l k by rw[b7.out];simp);clear b7 hok;generalize xC ps (gw ws) l k=sb at e4 ⊢;go_wp2;go_roundw
      case rel =>
       refine⟨k+1,by simp,by omega,by rw[e4.out],HG.out,c8.out.congr λj hj=>?_⟩;by_cases e:j=k
       ·subst e
        rw[if_neg (qdi _),if_pos (by omega),d6.out];simp
       ·by_cases e2:j<k
        ·rw[if_pos e2,if_pos (by omega)]
        ·rw[if_neg e2,if_neg (by omega)]
      case measure=>simp[qaE];omega
     | false =>
      rw[hok] at hb b7 d6;have e4:=q1g (show xC ps (gw ws) l (k+1)=true by rw[b7.out];simp);clear b7 hok;generalize xC ps (gw ws) l k=sb at ⊢;obtain⟨q,hq⟩:∃q,q=xT ps l all i k:=⟨_,rfl⟩
      rw[<- hq] at hn hcl d6;have HQ:=q1g hq;clear hq;go_wp2;go_roundw
      case rel =>
       refine⟨k+1,by simp,by omega,by rw[e4.out],HG.out.trans (qg _ _ _ _),(c8.out.set (x:=(q:Int)+1) b6).congr λj hj=>?_⟩;by_cases e:j=k
       ·subst e
        rw[if_pos rfl,if_pos (by omega),d6.out];simp
       ·by_cases e2:j<k
        ·rw[if_neg e,if_pos e2,if_pos (by omega)]
        ·rw[if_neg e,if_neg e2,if_neg (by omega)]
      case measure=>simp[qaE];omega
    ·obtain rfl:k=l.length:=by omega
     have c9:=q1g (q72 ps l all i ws d9.out);have r8:=finW_le ps l all i;rw[show xC ps (gw ws) l l.length=!qr ps (gw ws) l from rfl];clear hG hN;cases hst:qr ps (gw ws) l with
     | true =>
      rw[hst] at c9;obtain⟨q,hq⟩:∃q,q=ZL ps l all i:=⟨_,rfl⟩
      rw[<- hq] at r8 c9 ⊢;clear hq hst;have hb:(!true)=false:=rfl;rw[hb];go_wp2;go_roundw
      case rel=>exact⟨i+1,by simp,by omega,by rw[c9.out];simp,H6.out.trans HG.out,c8.out.congr λj hj=>by rw[if_pos hj]⟩
      case measure=>simp[qaE];omega
     | false =>
      rw[hst] at c9;clear hst;have hb:(!false)=true:=rfl;rw[hb];have e8:=q1g (show ZL ps l all (i+1)=ZL ps l all i by rw[c9.out];simp);generalize ZL ps l all i=q at r8 e8 ⊢;go_wp2;go_roundw
      case rel=>exact⟨i+1,by simp,by omega,by rw[e8.out],H6.out.trans HG.out,c8.out.congr λj hj=>by rw[if_pos hj]⟩
      case measure=>simp[qaE];omega
  ·obtain rfl:i=all.length:=by omega
   clear hG hN;obtain⟨fq,k9⟩:∃fq,fq=ZL ps l all all.length:=⟨_,rfl⟩
   rw[<- k9];have v2:=q1g k9;clear k9;go_wp2;refine j6 (λq=>(wq.tp q.tape).grownBy q none/\q.heap[X]?=some (.cells #[.slice yb ps.length yc,.int .i64 lim] 24 (0,0))/\(qq 0 q.heap.size q (.slice yb ps.length yc) ps/\qe 0 q.heap.size q (.slice lb l.length lc) l)/\zV q C l.length (λk=>xT ps l all all.length k)) ⟨gnew G5.out (tpg a8.out) v0.out,XR.out _ a8.out,⟨(PR.out _ a8.out).mono (q4o _) (Nat.le_of_lt d8),(LR.out _ a8.out).mono (q4o _) (Nat.le_of_lt d8)⟩,HN.out⟩ λu6 hF=>?_;obtain⟨g6,x6,⟨p6,l6⟩,n6⟩:=hF;clear XR SC PR LR RR N5 G5 m6 a8 HN d8 c0 c1;refine EL.seq D hb hs ?_;refine EL.piece D hb hs λT=>?_;have c0:=q8 (w:=u6.tp T) x6 (o:=0) rfl;have c1:=q8 (w:=u6.tp T) x6 (o:=1) rfl;obtain⟨cr,l9⟩:∃cr,cr=jl ps (pre Par.mn ps ps.length) (pre Par.mx ps ps.length) l:=⟨_,rfl⟩
   have s7:=q1g l9;have hcl:cr.length=l.length:=by rw[l9,YA]
   clear l9;go_wp2_with (first
    | (go_at_call 73;refine(qaa 0 u6.heap.size _ _ ps lim l (u6.tp T) p6 l6 (q4o _) a6.out PK.out).mono ?_;rintro e w7 ⟨cv,rfl,r3,b8⟩;rw[<- s7.out] at b8;have G7:=q1g r3;obtain⟨cb,cc,rfl,-,-⟩:=b8.cell;rw[hcl] at b8 ⊢;have I7:=q1g b8;clear r3 b8))
   refine j6 (λq=>(wq.tp q.tape).grownBy q none/\q.heap[X]?=some (.cells #[.slice yb ps.length yc,.int .i64 lim] 24 (0,0))/\(qq 0 q.heap.size q (.slice yb ps.length yc) ps/\qe 0 q.heap.size q (.slice lb l.length lc) l)/\zV q C l.length (λk=>xT ps l all all.length k)/\qe 0 q.heap.size q (.slice cb l.length cc) cr) ⟨gb g6 (tpg G7.out),blk (w:=u6.tp T) G7.out (by simp) x6,⟨(qq.kept (w:=u6.tp T) p6 G7.out (by simp)).mono (q4o _) G7.out.size,l6.kn G7.out⟩,zV.kept (w:=u6.tp T) n6 G7.out (by simp),I7.out.mono (q9t _) (q4o _)⟩ λu7 hF=>?_;obtain⟨g7,x7,⟨p7,l7⟩,n7,k7⟩:=hF;clear G7 I7 g6 x6 p6 l6 n6 c0 c1;refine EL.seq D hb hs ?_;refine EL.piece D hb hs λT=>?_;have c0:=q8 (w:=u7.tp T) x7 (o:=0) rfl;have c1:=q8 (w:=u7.tp T) x7 (o:=1) rfl;obtain⟨v,hv⟩:∃v,v=vF ps l:=⟨_,rfl⟩
   have HV:=q1g hv;clear hv;go_wp2_with (first
    | (go_at_call 37;refine(Kw 0 u7.heap.size _ _ ps lim l (u7.tp T) p7 l7 (q4o _) a6.out PK.out).mono ?_;rintro e w8 ⟨rfl,q7⟩;rw[<- HV.out];have G8:=q1g q7;clear q7))
   refine j6 (λq=>(wq.tp q.tape).grownBy q none/\qe 0 q.heap.size q (.slice lb l.length lc) l/\zV q C l.length (λk=>xT ps l all all.length k)/\qe 0 q.heap.size q (.slice cb l.length cc) cr) ⟨gb g7 (tpg G8.out),l7.kn G8.out,zV.kept (w:=u7.tp T) n7 G8.out (by simp),k7.kn G8.out⟩ λu8 hF=>?_;obtain⟨g8,l8,n8,k8⟩:=hF;clear G8 g7 x7 p7 l7 n7 k7 c0 c1;have a7:∀p∈ps,p.mn<=p.mx:=λp hp=>(e5.out p hp).2.1;have v1:=q1g (show v=kB fq all.length by rw[HV.out,v2.out,d7.out];exact q9y a7 l);refine EL.seq D hb hs ?_;refine EL.piece D hb hs λT=>?_;go_wp2_with (first
    | (go_at_call 74;refine(q1H _ _ _).mono ?_;rintro e w9 ⟨rfl,rfl⟩;rw[<- v1.out]))
   refine EL.tape (wq:=u8) ?_ T;refine EL.seq D hb hs ?_;refine EL.piece D hb hs λT=>?_;have N8:=q1g (show zV (u8.tp T) C l.length (λk=>xT ps l all all.length k) from n8);have K8:=q1g (show qe 0 u8.heap.size (u8.tp T) (.slice cb l.length cc) cr from k8);have G8:=q1g g8;have s5:=q1g a7;clear n8 k8 g8 l8 a7;go_wp2;go_loopw [17] (λkv wr=>∃k:Nat,kv=.int .i64 k/\k<=l.length/\(u8.tp T).grownBy wr none) (λkv _=>(l.length - qaE kv).toNat)
   case atStart=>exact⟨0,rfl,by omega,q7s _ _⟩
   case round =>
    obtain⟨k,rfl,hk,hG⟩:=hrel;have HG:=q1g hG;by_cases b6:k<l.length
    ·obtain⟨_,_,em,m5,hmc⟩:=(K8.out.kept hG (by simp)).cell
     injection em with em1 m5 em3;subst em1 em3;obtain⟨MB,mo,rfl,-,-,-,a9⟩:=hmc (by intro e;rw[e,q87] at m5;omega);have x1:=a9 k (by omega);have hn:=(N8.out.kept hG (by simp)).cell b6;have n4:cr[k]?.getD 0=kB (xT ps l all all.length k) all.length:=by rw[s7.out,q4y _ _ _ _ _ b6,d7.out];exact qab s5.out l k
     rw[n4] at x1;have s9:(k:Int)<(l.length:Int):=by omega
     generalize ((xT ps l all all.length k:Nat):Int)=q at x1 hn;have SQ:=q1g (q86 x1 hn);clear hG hmc a9 n4 m5;go_upto_region 24 with(fail)
     go_region_held3 (λw'=>w'.cell? ⟨MB,mo+k,none⟩=some (.int .i64 (kB q all.length))/\w'.cell? ⟨C,k,none⟩=some (.int .i64 q))
      (first | exact SQ.out)
      (first | (go_at_call 74;refine(q1H _ _ _).mono ?_;rintro e w9 ⟨rfl,rfl⟩))
     go_wp2;go_roundw
     case rel=>exact⟨k+1,by simp,by omega,HG.out.trans (qb _ _)⟩
     case measure=>simp[qaE];omega
    ·obtain rfl:k=l.length:=by omega
     clear hG;go_wp2;refine j6 (λq=>(wq.tp q.tape).grownBy q none) (gb G8.out (tpg HG.out)) λu9 g9=>?_;clear N8 K8 G8 HG;refine EL.seq D hb hs ?_;refine EL.region D hb hs ?_;simp only[q93,q7v,q87,q98,q8w,q99,qag];refine EL.enter D hb hs (fk:=23) (args:=#[]) rfl rfl (λT=>by rw[run_call_body (f:=23) rfl Tryp.func23 (by kernel_rfl) rfl];walk_nrm) (z9 23 (by decide)) ?_;refine el23 D hok t4 hin ⟨_,Tryp.func16,Tryz.func16⟩ ?_ _ [qj 16] hb hs λv u hR=>?_
     ·obtain⟨cs,e,g,h0,t5⟩:=h0
      exact⟨cs,e,g,blk (w:=wq.tp u9.tape) g9 (by simp) h0,t5⟩
     obtain⟨rfl,v6⟩:=hR;rw[qc3];walk_nrm;refine EL.list D hb hs [1] [_] (rest:=[]) rfl λT4=>?_;go_wp2;refine EL.tape (wq:=u) ?_ T4;refine EL.region_end D hb hs ?_;refine EL.retS D hb hs ?_;exact EL.last q6 rfl rfl Tryz.func16 rfl rfl k0
end
end Go.Proofs.YtidgnkmjgioapaaGreat
end
section
namespace Go.Proofs.YtidgnkmjgioapaaGreat
open Go Go.RowKit Go.Co Go.Sim Go.Conc Go.ConcN Go.ChangeShapes Go.WideShapes
theorem Tryz.own:ownKnob Tryz.prog.godebug=none:=by kernel_rfl
theorem Tryz.laidOut:laidOutB q7y=true:=by kernel_rfl
theorem q5x:Tryz.prog.globals.size=0:=by kernel_rfl
theorem start0:(begin q7y (λ_ _=>0) default).world.heap[0]?=some (.cells ((Array.range Tryz.prog.types.size).map λt=>.int .u64 (Int.ofNat t)) 0 (0,0)):=by kernel_rfl
def OpenAt0(w:q2t):Prop:=∃cs e f,w.heap[0]?=some (.cells cs e f)/\∀(i:Nat) v,cs[i]?=some v->∃k m,v=.int k m
theorem open0{w:q2t}(h:w.ShapedOpen q7y):OpenAt0 w:=by
 obtain⟨o,o0,h1,h2,h3⟩:=h.2 0 (by rw[q5x];exact q4o _) (q3g.1 start0).1;rw[start0] at h2;cases h2;rw[q5x,if_neg (by decide)] at h3;subst h3;refine⟨_,_,_,h1,λi v hv=>?_⟩;rw[Array.getElem?_map] at hv;cases hi:(Array.range Tryz.prog.types.size)[i]? with
 | none=>rw[hi] at hv;cases hv
 | some x=>rw[hi] at hv;cases hv;exact⟨_,_,rfl⟩
theorem two0:@Two (JS Tryp.prog q7y ls λ_=>False) Tryp.prog q7y :=
 @Two.mk (JS Tryp.prog q7y ls λ_=>False) _ _ (duoQP _) ⟨⟨JS Tryp.prog Tryp.prog ls λ_=>False⟩,up _,duoQQ _⟩ hrf stub85
def NumLaw(f:qaA):Prop :=
 ∀ [J:JunkSet] {Post:q4m->q2t->Prop} {W:q2t},Two Tryp.prog q7y->JunkSet.okf 137->(∀i,¬ JunkSet.jk i)->∀{base:Option qaz} {len cap:Nat} {wq:q2t},(len:Int)<=9223372036854775807 ->
  (0<len->∃lb lo,base=some ⟨lb,lo,none⟩/\∀i,i<len->∃x,wq.cell? ⟨lb,lo+i,none⟩=some (.int .i64 x))->qQ wq 0 ->
  (∀w,(∀j,j<W.heap.size->w.heap[j]?=W.heap[j]?)->w.os=W.os->w.output=W.output->W.heap.size<=w.heap.size->Post (.bool true) w) ->
  EL Tryp.prog q7y f Post W (G (q9E Tryp.prog f #[.slice base len cap] .normal) [qj f]) wq
theorem q9k{f:qaA}(hf:f≠85)(b6:lst.contains f=true)(b0:NumLaw f){Post:q4m->q2t->Prop}{W:q2t}{a0:Option qaz}{len cap:Nat}(hsp:∀a,a0=some a->a.spot=none/\∃cs e g,W.heap[a.block]?=some (.cells cs e g))
  (hl:(len:Int)<=9223372036854775807) (hr:0<len->∃lb lo,a0=some ⟨lb,lo,none⟩/\∀i,i<len->∃x,W.cell? ⟨lb,lo+i,none⟩=some (.int .i64 x)) (h0:qQ W 0)
  (a6:∀w,(∀j,j<W.heap.size->w.heap[j]?=W.heap[j]?)->w.os=W.os->w.output=W.output->W.heap.size<=w.heap.size->Post (.bool true) w) :
  Go.Co.Ends q7y Post (solo (G (q9E q7y f #[.slice a0 len cap] .normal) []) W) #[]:=by
 letI:JunkSet:=JS Tryp.prog q7y ls λ_=>False
 obtain⟨a9,e0,g0,a7,b8⟩:=h0;have b9:0<W.heap.size:=(q3g.1 a7).1
 let kn:Nat->Bool:=λi=>i == 0 || (match a0 with | some a=>i == a.block | none=>false)
 have b7:∀i,kn i=true->i<W.heap.size->∃cs e g,W.heap[i]?=some (.cells cs e g):=by
  intro i hi _;simp only[kn,qcb,beq_iff_eq] at hi;rcases hi with rfl | hi
  ·exact⟨_,_,_,a7⟩
  ·cases a0 with
   | none=>cases hi
   | some a =>
    have:i=a.block:=by simpa using hi
    rw[this];exact(hsp a rfl).2
 refine EL.begin (kn:=kn) (aq:=#[.slice a0 len cap]) two0 b6 (z9 f hf) (λi h=>h) (by rw[q5x];exact b9) (λi hi=>?_) b7 ⟨rfl,λi x y hx hy=>?_⟩ ?_
 ·rw[q5x] at hi
  obtain rfl:i=0:=by omega
  rfl
 ·rw[hx] at hy
  cases hy;obtain rfl:x=.slice a0 len cap:=by
   rcases i with _ | i
   ·simpa using hx.symm
   ·simp at hx
  cases a0 with
  | none=>exact .sliceNil _ _
  | some a =>
   obtain⟨a8,cs,e,g,Z⟩:=hsp a rfl;obtain⟨b,o,sp⟩:=a;dsimp only at a8 Z;subst a8;exact .slice _ _ _ _ (vX.2 ⟨(q3g.1 Z).1,by simp[kn],rfl⟩)
 ·refine b0 two0 (by show lst.contains 137=true;rfl) (λi h=>h) hl (λhp=>?_) ⟨_,_,_,vh (by rfl) a7,λi v hv=>?_⟩ a6
  rotate_left
  ·have hsz:i<a9.size:=by have:=(q3g.1 hv).1;simpa[xe] using this
   obtain⟨k,m,e⟩:=b8 i _ (q8G hsz);rw[KU _ _ (show a9[i]?=some (.int k m) by rw[<- e];exact q8G hsz)] at hv;cases hv;exact⟨k,m,rfl⟩
  obtain⟨lb,lo,rfl,h⟩:=hr hp;refine⟨lb,lo,rfl,λi hi=>?_⟩;obtain⟨x,hx⟩:=h i hi;obtain⟨-,cs,e,g,Z⟩:=hsp _ rfl;refine⟨x,?_⟩;have hc:cs[lo+i]?=some (.int .i64 x):=by simpa[q9z,Z] using hx
  have:=vh (kn:=kn) (by simp[kn]) Z;simp only[q9z,this];exact KU _ _ hc
end Go.Proofs.YtidgnkmjgioapaaGreat
end
