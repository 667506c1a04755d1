/-
  Part 6 of the proof. gladstonelaw04.PileSpare answers true for every list of numbers, and leaves its argument as it was. No conditions.
-/
import Derived.Test.YtidgnkmjgioapaaGreatJ2
import Derived.Test.YtidgnkmjgioapaaGreatRows
import Derived.Conc.LeavingOf
import Derived.Conc.HoldsTime
import Derived.ChangeSame
import Derived.ChangeVars
import Derived.JoinedOf
import Derived.RowKit
import Derived.RowKitTokens
import Derived.LaidHandle
import Derived.ProofKit
set_option maxRecDepth 100000
set_option maxHeartbeats 8000000
set_option linter.all false
open Array renaming getElem?_eq_getElem → q8s,getElem?_eq_some_iff → q49,replicate_succ → q9r,replicate_zero → q9s
open Bool renaming or_eq_true → qbB
open Go renaming Addr → qae,Calls → qa6,FuncId → qag,Value → q4b,World → q2q,bodyPost_ret → qaC,heap_alloc_new → q4w,info_parts → qc1,step_append_lies → qap
open Go.Conc renaming base → q8g
open Go.Frame renaming enter → q9t,finish_at → qbn
open Go.Lib renaming hid → q1e
open Go.Proofs.Tryz renaming prog → q7f,results38 → qcD
open Go.RowKit renaming intOf → qaA
open Go.Value renaming int → q8q,oneCell' → qat,ownBlock → q8A
open Go.World renaming cell? → q9a,grownBy_alloc → q2g,news_of_block → q9B,setCell → qb7,size_alloc → q4v
open Go.World.grownBy renaming andThen → qb4,refl → q7k
open List renaming cons_append → q7G,drop_succ_cons → q8E,drop_zero → qa5,flatMap_cons → qby,getElem?_eq_some_iff → q7w,length_append → qaq,length_cons → q7a,length_nil → q7n,nil_append → q96,push_toArray → qa2,range → q9g,size_toArray → q8B
open List.range renaming loop → q9H
open Nat renaming le_of_eq → qas,le_refl → q3c,le_succ_of_le → qcm,reduceAdd → q8u,reduceSub → qaz,zero_add → q7m,zero_le → q9f
open Option renaming getD_some → q6r
section
namespace Go.Proofs.YtidgnkmjgioapaaGreat
open Go Go.RowKit
theorem zB{w w0:q2q}{o:Obj}(_:w.grownBy (w0.alloc o) none):(w0.alloc o).heap[w0.heap.size]?=some o:=q4w _ _
theorem vz{w w1 w6:q2q}{A a6 Z:Nat}{ps:List Par}{p:Par}{lim:Int}(hA:A=w.heap.size)(h1:w.grownBy w1 none)(h6:w1.grownBy w6 none)(ho:w6.ownsRow (A+3) 28 4 (.slice (some ⟨a6,0,none⟩) (ps.length+1) Z) (ps.length+1) (jA ps++je p))(hn:ps.length<=1000){w7:q2q}
  (h7:w7=((w6.setCell ⟨A,0,none⟩ (.slice (some ⟨a6,0,none⟩) (ps.length+1) Z)).setCell ⟨A+1+1,0,none⟩ (.slice (some ⟨a6,0,none⟩) (ps.length+1) Z)).setCell ⟨A+1+1,1,none⟩ (.int .i64 lim)) :
  ∃v',Ending.returned (.agg #[.slice (some ⟨a6,0,none⟩) (ps.length+1) Z,.int .i64 lim])=.returned (.agg #[v',.int .i64 lim])/\w.grownBy w7 none/\qq w.heap.size w7.heap.size w7 v' (ps++[p]):=by
 have hg:=(ho.lt a6 rfl).1;subst h7;refine⟨_,rfl,?_,?_⟩
 ·exact(((h1.trans h6).andThen (qe _ A 0 _) (by rintro j e;cases e;exact .inl (by omega))).andThen (qe _ (A+1+1) 0 _) (by rintro j e;cases e;exact .inl (by omega))).andThen (qe _ (A+1+1) 1 _) (by rintro j e;cases e;exact .inl (by omega))
 ·have h:=((ho.kept (qe _ A 0 (.slice (some ⟨a6,0,none⟩) (ps.length+1) Z)) (.inr (by simp[q8A];omega))).kept (qe _ (A+1+1) 0 (.slice (some ⟨a6,0,none⟩) (ps.length+1) Z)) (.inr (by simp[q8A];omega))).kept (qe _ (A+1+1) 1 (.int .i64 lim)) (.inr (by simp[q8A];omega))
  rw[<- JR] at h;exact(qq.own h (by simp) (by simp;omega)).mono (by omega) (q3c _)
theorem xX(ps:List Par):(jA ps).length=ps.length*4:=by
 induction ps with
 | nil=>rfl
 | cons q t ih=>unfold jA at ih ⊢;rw[qby,qaq,ih];simp[je];omega
theorem Zv(ps:List Par):∀u∈jA ps,u.oneCell'=true:=by
 intro u hu;obtain⟨q,-,h⟩:=List.mem_flatMap.1 hu;simp[je] at h;rcases h with rfl | rfl | rfl | rfl<;>rfl
theorem Zk(lo hi:Nat)(pv:q4b)(ps:List Par)(lim:Int)(p:Par)(w:q2q)(hP:qq lo hi w pv ps)(hhi:hi<=w.heap.size)(hl:ps.length<=1000) :
  qa6 Tryp.prog 38 #[.agg #[pv,.int .i64 lim],.agg #[.int .i64 p.mn,.int .i64 p.mx,.int .i64 p.bears,.int .i64 p.tall]] w λe w'=>∃v',e=.returned (.agg #[v',.int .i64 lim])/\w.grownBy w' none/\qq w.heap.size w'.heap.size w' v' (ps++[p]):=by
 obtain⟨i0,d6,d5,c9,c8⟩:=qc1 Tryp.info28p;obtain⟨yb,yc,rfl,g8,hc⟩:=hP;obtain⟨A,hA⟩:∃A,A=w.heap.size:=⟨_,rfl⟩
 obtain⟨w1,e5⟩:∃w1,w1=((w.alloc (.cells #[.slice yb ps.length yc,.int .i64 lim] 24)).alloc (.cells #[.int .i64 p.mn,.int .i64 p.mx,.int .i64 p.bears,.int .i64 p.tall] 28)).alloc (.cells #[.slice none 0 0,.int .i64 0] 24):=⟨_,rfl⟩
 have g5:w.grownBy w1 none:=by rw[e5];exact((q2g _ _ none).trans (q2g _ _ none)).trans (q2g _ _ none)
 have d8:w1.heap[A]?=some (.cells #[.slice yb ps.length yc,.int .i64 lim] 24 (0,0)):=by rw[e5,hA];exact qp (qp (q4w w _))
 have c3:w1.heap[A+1]?=some (.cells #[.int .i64 p.mn,.int .i64 p.mx,.int .i64 p.bears,.int .i64 p.tall] 28 (0,0)):=by
  rw[e5];have:=q4w (w.alloc (.cells #[.slice yb ps.length yc,.int .i64 lim] 24)) (.cells #[.int .i64 p.mn,.int .i64 p.mx,.int .i64 p.bears,.int .i64 p.tall] 28);rw[q4v,<- hA] at this;exact qp this
 have g6:w1.heap[A+1+1]?=some (.cells #[.slice none 0 0,.int .i64 0] 24 (0,0)):=by
  rw[e5];have:=q4w ((w.alloc (.cells #[.slice yb ps.length yc,.int .i64 lim] 24)).alloc (.cells #[.int .i64 p.mn,.int .i64 p.mx,.int .i64 p.bears,.int .i64 p.tall] 28)) (.cells #[.slice none 0 0,.int .i64 0] 24);rw[q4v,q4v,<- hA] at this;exact this
 have a9:=q1e g6;clear g6;have e8:w1.heap.size=A+3:=by rw[e5,q4v,q4v,q4v,hA]
 have HW:=q1e e5;have HA:=q1e hA;have HG:=q1e g5;have HS:=q1e e8;clear e5 hA g5 e8;by_cases h0:ps=[]
 ·subst h0
  clear hc;rcases yb with _ | ⟨B,o,sp⟩
  ·go_enter Tryp.func38,Tryz.ntmps38
   go_upto_region 1 with(fail)
   rw[<- HA.out,show((w.alloc (.cells #[.slice none 0 yc,.int .i64 lim] 24)).alloc (.cells #[.int .i64 p.mn,.int .i64 p.mx,.int .i64 p.bears,.int .i64 p.tall] 28)).alloc (.cells #[.slice none 0 0,.int .i64 0] 24)=w1 from HW.out.symm];have d9:∀W,w1.grownBy W none->W.cell? ⟨A,0,none⟩=some (.slice none 0 yc)/\W.cell? ⟨A+1,0,none⟩=some (.int .i64 p.mn)/\W.cell? ⟨A+1,1,none⟩=some (.int .i64 p.mx)/\W.cell? ⟨A+1,2,none⟩=some (.int .i64 p.bears)/\W.cell? ⟨A+1,3,none⟩=some (.int .i64 p.tall):=λW h =>
    ⟨q8 (blk h (by simp) d8) rfl,q8 (blk h (by simp) c3) rfl,q8 (blk h (by simp) c3) rfl,q8 (blk h (by simp) c3) rfl,q8 (blk h (by simp) c3) rfl⟩
   have b0:=q1e d9;have b8:=q1e d8;have HT:=q1e (q7k w1 none);clear d9 d8 c3;replace HT:=q1e (qc w1 none);refine qM 8 (λW=>W.cell? ⟨A,0,none⟩=some (.slice none 0 yc)/\W.cell? ⟨A+1,0,none⟩=some (.int .i64 p.mn)/\W.cell? ⟨A+1,1,none⟩=some (.int .i64 p.mx)/\W.cell? ⟨A+1,2,none⟩=some (.int .i64 p.bears)/\W.cell? ⟨A+1,3,none⟩=some (.int .i64 p.tall)) (by kernel_rfl) (by kernel_rfl) (b0.out _ (qc _ _)) (λa6=>?_);simp only[q7a,q7n,q8u,qaz,q7m,q9r,q9s,qa2,q96,q7G];refine tk 1 ?_;try go_frame
   refine tk 2 ?_;try go_frame
   refine tk 4 ?_;try go_frame
   refine rdy [0,5] ?_;refine cns 0 (λK hK=>?_) ?_
   ·skip
    go_simp;replace HT:=q1e (show w1.grownBy _ none from HT.out.trans (q2g _ (.cells #[] 28) none));have F0:=q1e (zB HT.out);try replace F5:=q1e (qp (p:=.cells #[] 28) F5.out)
    refine hK.out _ _ (b0.out _ HT.out) (λa6=>?_);clear hK K;try go_frame
    refine rdy [3,5] ?_;refine cns 3 (λK hK=>?_) ?_
    ·skip
     go_simp;refine hK.out _ _ (b0.out _ HT.out) (λa6=>?_);clear hK K;try go_frame
     refine rdy [5] ?_;refine cns 5 (λK hK=>?_) ?_
     ·skip
      go_simp;replace HT:=q1e (show w1.grownBy _ none from HT.out.trans (q2g _ (.cells #[.int .i64 p.mn,.int .i64 p.mx,.int .i64 p.bears,.int .i64 p.tall] 28) none));have F5:=q1e (zB HT.out);try replace F0:=q1e (qp (p:=.cells #[.int .i64 p.mn,.int .i64 p.mx,.int .i64 p.bears,.int .i64 p.tall] 28) F0.out)
      refine hK.out _ _ (b0.out _ HT.out) (λa6=>?_);clear hK K;try go_frame
      try simp only[q7m]
      refine rdy [6] ?_;refine cns 6 (λK hK=>?_) ?_
      ·skip
       refine qap _ (by rfl) _ _ _ (by rfl) (A+3) 28 i0 _ 4 32 Tryp.und22 d6 d5 c9 c8 rfl (by omega) (.slice (some ⟨_,0,none⟩) 0 0) 0 [] (by rfl) ⟨rfl,.inr ⟨_,0,#[],rfl,(by have:=HS.out;first | exact qas this.symm | (show A+3<=w1.heap.size+1;omega) | (simp only[q4v];exact(qcm (qas this.symm)))),(by first | exact F0.out | (have f:=F0.out;simp only[q4v] at f;exact f)),q3c _,by decide,rfl,rfl⟩⟩ ⟨_,0,none⟩ 1 1 (je p) (by rfl) (by rfl) (q9B (cs:=#[.int .i64 p.mn,.int .i64 p.mx,.int .i64 p.bears,.int .i64 p.tall]) (t:=28) (fr:=(0,0)) (by first | exact F5.out | (have f:=F5.out;simp only[q4v] at f;exact f))) (by simp[qat,je]) (by omega) (by unfold maxLen;omega) (by omega) (HS.out ▸ HT.out.size) _ rfl ?_;intro b6 a8 w6 a7 Z b7 hgl;have b9:=q1e a7;have e4:=q1e Z;replace HT:=q1e (qb4 (row:=none) HT.out Z (λj e=>.inl (by have:=HS.out;simp[q8A] at e;omega)));clear a7 Z b7 hgl;refine hK.out _ _ (b0.out _ HT.out) (λa6=>?_);clear hK K;try go_frame
       refine tk 7 ?_;try go_frame
       refine⟨by kernel_rfl,?_⟩;simp only[q8E,qa5];have qz:=qj (o:=0) (blk HT.out (by simp) b8.out);obtain⟨q0,r0,r1,r2,r3⟩:=a6;have q1:=q8 (blk HT.out (by simp) b8.out) (o:=1) rfl;have z0:=q8 (blk HT.out (by simp) a9.out) (o:=0) rfl;have z1:=q8 (blk HT.out (by simp) a9.out) (o:=1) rfl;have z2:=qj (o:=0) (blk HT.out (by simp) a9.out);have z3:=qj (o:=1) (blk HT.out (by simp) a9.out);go_wp2;have hz:=qg (o:=1) (v:=.int .i64 lim) (qg (o:=0) (v:=.slice (some ⟨b6,0,none⟩) 1 a8) (blk (qe w6 A 0 (.slice (some ⟨b6,0,none⟩) 1 a8)) (by simp;omega) (blk HT.out (by simp) a9.out)));exact qaC (v:=.agg #[.slice (some ⟨b6,0,none⟩) 1 a8,.int .i64 lim]) (by simp[results,qcD,go_sem,q9a,hz]) rfl (vz (ps:=[]) HA.out HG.out HT.out b9.out hl rfl)
      exact qi.nil
     exact qi.nil
    refine cns 5 (λK hK=>?_) ?_
    ·skip
     go_simp;replace HT:=q1e (show w1.grownBy _ none from HT.out.trans (q2g _ (.cells #[.int .i64 p.mn,.int .i64 p.mx,.int .i64 p.bears,.int .i64 p.tall] 28) none));have F5:=q1e (zB HT.out);try replace F0:=q1e (qp (p:=.cells #[.int .i64 p.mn,.int .i64 p.mx,.int .i64 p.bears,.int .i64 p.tall] 28) F0.out)
     refine hK.out _ _ (b0.out _ HT.out) (λa6=>?_);clear hK K;try go_frame
     refine rdy [3] ?_;refine cns 3 (λK hK=>?_) ?_
     ·skip
      go_simp;refine hK.out _ _ (b0.out _ HT.out) (λa6=>?_);clear hK K;try go_frame
      try simp only[q7m]
      refine rdy [6] ?_;refine cns 6 (λK hK=>?_) ?_
      ·skip
       refine qap _ (by rfl) _ _ _ (by rfl) (A+3) 28 i0 _ 4 32 Tryp.und22 d6 d5 c9 c8 rfl (by omega) (.slice (some ⟨_,0,none⟩) 0 0) 0 [] (by rfl) ⟨rfl,.inr ⟨_,0,#[],rfl,(by have:=HS.out;first | exact qas this.symm | (show A+3<=w1.heap.size+1;omega) | (simp only[q4v];exact(qcm (qas this.symm)))),(by first | exact F0.out | (have f:=F0.out;simp only[q4v] at f;exact f)),q3c _,by decide,rfl,rfl⟩⟩ ⟨_,0,none⟩ 1 1 (je p) (by rfl) (by rfl) (q9B (cs:=#[.int .i64 p.mn,.int .i64 p.mx,.int .i64 p.bears,.int .i64 p.tall]) (t:=28) (fr:=(0,0)) (by first | exact F5.out | (have f:=F5.out;simp only[q4v] at f;exact f))) (by simp[qat,je]) (by omega) (by unfold maxLen;omega) (by omega) (HS.out ▸ HT.out.size) _ rfl ?_;intro b6 a8 w6 a7 Z b7 hgl;have b9:=q1e a7;have e4:=q1e Z;replace HT:=q1e (qb4 (row:=none) HT.out Z (λj e=>.inl (by have:=HS.out;simp[q8A] at e;omega)));clear a7 Z b7 hgl;refine hK.out _ _ (b0.out _ HT.out) (λa6=>?_);clear hK K;try go_frame
       refine tk 7 ?_;try go_frame
       refine⟨by kernel_rfl,?_⟩;simp only[q8E,qa5];have qz:=qj (o:=0) (blk HT.out (by simp) b8.out);obtain⟨q0,r0,r1,r2,r3⟩:=a6;have q1:=q8 (blk HT.out (by simp) b8.out) (o:=1) rfl;have z0:=q8 (blk HT.out (by simp) a9.out) (o:=0) rfl;have z1:=q8 (blk HT.out (by simp) a9.out) (o:=1) rfl;have z2:=qj (o:=0) (blk HT.out (by simp) a9.out);have z3:=qj (o:=1) (blk HT.out (by simp) a9.out);go_wp2;have hz:=qg (o:=1) (v:=.int .i64 lim) (qg (o:=0) (v:=.slice (some ⟨b6,0,none⟩) 1 a8) (blk (qe w6 A 0 (.slice (some ⟨b6,0,none⟩) 1 a8)) (by simp;omega) (blk HT.out (by simp) a9.out)));exact qaC (v:=.agg #[.slice (some ⟨b6,0,none⟩) 1 a8,.int .i64 lim]) (by simp[results,qcD,go_sem,q9a,hz]) rfl (vz (ps:=[]) HA.out HG.out HT.out b9.out hl rfl)
      exact qi.nil
     exact qi.nil
    exact qi.nil
   refine cns 5 (λK hK=>?_) ?_
   ·skip
    go_simp;replace HT:=q1e (show w1.grownBy _ none from HT.out.trans (q2g _ (.cells #[.int .i64 p.mn,.int .i64 p.mx,.int .i64 p.bears,.int .i64 p.tall] 28) none));have F5:=q1e (zB HT.out);try replace F0:=q1e (qp (p:=.cells #[.int .i64 p.mn,.int .i64 p.mx,.int .i64 p.bears,.int .i64 p.tall] 28) F0.out)
    refine hK.out _ _ (b0.out _ HT.out) (λa6=>?_);clear hK K;try go_frame
    refine rdy [0] ?_;refine cns 0 (λK hK=>?_) ?_
    ·skip
     go_simp;replace HT:=q1e (show w1.grownBy _ none from HT.out.trans (q2g _ (.cells #[] 28) none));have F0:=q1e (zB HT.out);try replace F5:=q1e (qp (p:=.cells #[] 28) F5.out)
     refine hK.out _ _ (b0.out _ HT.out) (λa6=>?_);clear hK K;try go_frame
     refine rdy [3] ?_;refine cns 3 (λK hK=>?_) ?_
     ·skip
      go_simp;refine hK.out _ _ (b0.out _ HT.out) (λa6=>?_);clear hK K;try go_frame
      try simp only[q7m]
      refine rdy [6] ?_;refine cns 6 (λK hK=>?_) ?_
      ·skip
       refine qap _ (by rfl) _ _ _ (by rfl) (A+3) 28 i0 _ 4 32 Tryp.und22 d6 d5 c9 c8 rfl (by omega) (.slice (some ⟨_,0,none⟩) 0 0) 0 [] (by rfl) ⟨rfl,.inr ⟨_,0,#[],rfl,(by have:=HS.out;first | exact qas this.symm | (show A+3<=w1.heap.size+1;omega) | (simp only[q4v];exact(qcm (qas this.symm)))),(by first | exact F0.out | (have f:=F0.out;simp only[q4v] at f;exact f)),q3c _,by decide,rfl,rfl⟩⟩ ⟨_,0,none⟩ 1 1 (je p) (by rfl) (by rfl) (q9B (cs:=#[.int .i64 p.mn,.int .i64 p.mx,.int .i64 p.bears,.int .i64 p.tall]) (t:=28) (fr:=(0,0)) (by first | exact F5.out | (have f:=F5.out;simp only[q4v] at f;exact f))) (by simp[qat,je]) (by omega) (by unfold maxLen;omega) (by omega) (HS.out ▸ HT.out.size) _ rfl ?_;intro b6 a8 w6 a7 Z b7 hgl;have b9:=q1e a7;have e4:=q1e Z;replace HT:=q1e (qb4 (row:=none) HT.out Z (λj e=>.inl (by have:=HS.out;simp[q8A] at e;omega)));clear a7 Z b7 hgl;refine hK.out _ _ (b0.out _ HT.out) (λa6=>?_);clear hK K;try go_frame
       refine tk 7 ?_;try go_frame
       refine⟨by kernel_rfl,?_⟩;simp only[q8E,qa5];have qz:=qj (o:=0) (blk HT.out (by simp) b8.out);obtain⟨q0,r0,r1,r2,r3⟩:=a6;have q1:=q8 (blk HT.out (by simp) b8.out) (o:=1) rfl;have z0:=q8 (blk HT.out (by simp) a9.out) (o:=0) rfl;have z1:=q8 (blk HT.out (by simp) a9.out) (o:=1) rfl;have z2:=qj (o:=0) (blk HT.out (by simp) a9.out);have z3:=qj (o:=1) (blk HT.out (by simp) a9.out);go_wp2;have hz:=qg (o:=1) (v:=.int .i64 lim) (qg (o:=0) (v:=.slice (some ⟨b6,0,none⟩) 1 a8) (blk (qe w6 A 0 (.slice (some ⟨b6,0,none⟩) 1 a8)) (by simp;omega) (blk HT.out (by simp) a9.out)));exact qaC (v:=.agg #[.slice (some ⟨b6,0,none⟩) 1 a8,.int .i64 lim]) (by simp[results,qcD,go_sem,q9a,hz]) rfl (vz (ps:=[]) HA.out HG.out HT.out b9.out hl rfl)
      exact qi.nil
     exact qi.nil
    exact qi.nil
   exact qi.nil
  ·go_enter Tryp.func38,Tryz.ntmps38
   go_upto_region 1 with(fail)
   rw[<- HA.out,show((w.alloc (.cells #[.slice (some ⟨B,o,sp⟩) 0 yc,.int .i64 lim] 24)).alloc (.cells #[.int .i64 p.mn,.int .i64 p.mx,.int .i64 p.bears,.int .i64 p.tall] 28)).alloc (.cells #[.slice none 0 0,.int .i64 0] 24)=w1 from HW.out.symm];have d9:∀W,w1.grownBy W none->W.cell? ⟨A,0,none⟩=some (.slice (some ⟨B,o,sp⟩) 0 yc)/\W.cell? ⟨A+1,0,none⟩=some (.int .i64 p.mn)/\W.cell? ⟨A+1,1,none⟩=some (.int .i64 p.mx)/\W.cell? ⟨A+1,2,none⟩=some (.int .i64 p.bears)/\W.cell? ⟨A+1,3,none⟩=some (.int .i64 p.tall):=λW h =>
    ⟨q8 (blk h (by simp) d8) rfl,q8 (blk h (by simp) c3) rfl,q8 (blk h (by simp) c3) rfl,q8 (blk h (by simp) c3) rfl,q8 (blk h (by simp) c3) rfl⟩
   have b0:=q1e d9;have b8:=q1e d8;have HT:=q1e (q7k w1 none);clear d9 d8 c3;replace HT:=q1e (qc w1 none);refine qM 8 (λW=>W.cell? ⟨A,0,none⟩=some (.slice (some ⟨B,o,sp⟩) 0 yc)/\W.cell? ⟨A+1,0,none⟩=some (.int .i64 p.mn)/\W.cell? ⟨A+1,1,none⟩=some (.int .i64 p.mx)/\W.cell? ⟨A+1,2,none⟩=some (.int .i64 p.bears)/\W.cell? ⟨A+1,3,none⟩=some (.int .i64 p.tall)) (by kernel_rfl) (by kernel_rfl) (b0.out _ (qc _ _)) (λa6=>?_);simp only[q7a,q7n,q8u,qaz,q7m,q9r,q9s,qa2,q96,q7G];refine tk 1 ?_;try go_frame
   refine tk 2 ?_;try go_frame
   refine tk 4 ?_;try go_frame
   refine rdy [0,5] ?_;refine cns 0 (λK hK=>?_) ?_
   ·skip
    go_simp;replace HT:=q1e (show w1.grownBy _ none from HT.out.trans (q2g _ (.cells #[] 28) none));have F0:=q1e (zB HT.out);try replace F5:=q1e (qp (p:=.cells #[] 28) F5.out)
    refine hK.out _ _ (b0.out _ HT.out) (λa6=>?_);clear hK K;try go_frame
    refine rdy [3,5] ?_;refine cns 3 (λK hK=>?_) ?_
    ·skip
     go_simp;refine hK.out _ _ (b0.out _ HT.out) (λa6=>?_);clear hK K;try go_frame
     refine rdy [5] ?_;refine cns 5 (λK hK=>?_) ?_
     ·skip
      go_simp;replace HT:=q1e (show w1.grownBy _ none from HT.out.trans (q2g _ (.cells #[.int .i64 p.mn,.int .i64 p.mx,.int .i64 p.bears,.int .i64 p.tall] 28) none));have F5:=q1e (zB HT.out);try replace F0:=q1e (qp (p:=.cells #[.int .i64 p.mn,.int .i64 p.mx,.int .i64 p.bears,.int .i64 p.tall] 28) F0.out)
      refine hK.out _ _ (b0.out _ HT.out) (λa6=>?_);clear hK K;try go_frame
      try simp only[q7m]
      refine rdy [6] ?_;refine cns 6 (λK hK=>?_) ?_
      ·skip
       refine qap _ (by rfl) _ _ _ (by rfl) (A+3) 28 i0 _ 4 32 Tryp.und22 d6 d5 c9 c8 rfl (by omega) (.slice (some ⟨_,0,none⟩) 0 0) 0 [] (by rfl) ⟨rfl,.inr ⟨_,0,#[],rfl,(by have:=HS.out;first | exact qas this.symm | (show A+3<=w1.heap.size+1;omega) | (simp only[q4v];exact(qcm (qas this.symm)))),(by first | exact F0.out | (have f:=F0.out;simp only[q4v] at f;exact f)),q3c _,by decide,rfl,rfl⟩⟩ ⟨_,0,none⟩ 1 1 (je p) (by rfl) (by rfl) (q9B (cs:=#[.int .i64 p.mn,.int .i64 p.mx,.int .i64 p.bears,.int .i64 p.tall]) (t:=28) (fr:=(0,0)) (by first | exact F5.out | (have f:=F5.out;simp only[q4v] at f;exact f))) (by simp[qat,je]) (by omega) (by unfold maxLen;omega) (by omega) (HS.out ▸ HT.out.size) _ rfl ?_;intro b6 a8 w6 a7 Z b7 hgl;have b9:=q1e a7;have e4:=q1e Z;replace HT:=q1e (qb4 (row:=none) HT.out Z (λj e=>.inl (by have:=HS.out;simp[q8A] at e;omega)));clear a7 Z b7 hgl;refine hK.out _ _ (b0.out _ HT.out) (λa6=>?_);clear hK K;try go_frame
       refine tk 7 ?_;try go_frame
       refine⟨by kernel_rfl,?_⟩;simp only[q8E,qa5];have qz:=qj (o:=0) (blk HT.out (by simp) b8.out);obtain⟨q0,r0,r1,r2,r3⟩:=a6;have q1:=q8 (blk HT.out (by simp) b8.out) (o:=1) rfl;have z0:=q8 (blk HT.out (by simp) a9.out) (o:=0) rfl;have z1:=q8 (blk HT.out (by simp) a9.out) (o:=1) rfl;have z2:=qj (o:=0) (blk HT.out (by simp) a9.out);have z3:=qj (o:=1) (blk HT.out (by simp) a9.out);go_wp2;have hz:=qg (o:=1) (v:=.int .i64 lim) (qg (o:=0) (v:=.slice (some ⟨b6,0,none⟩) 1 a8) (blk (qe w6 A 0 (.slice (some ⟨b6,0,none⟩) 1 a8)) (by simp;omega) (blk HT.out (by simp) a9.out)));exact qaC (v:=.agg #[.slice (some ⟨b6,0,none⟩) 1 a8,.int .i64 lim]) (by simp[results,qcD,go_sem,q9a,hz]) rfl (vz (ps:=[]) HA.out HG.out HT.out b9.out hl rfl)
      exact qi.nil
     exact qi.nil
    refine cns 5 (λK hK=>?_) ?_
    ·skip
     go_simp;replace HT:=q1e (show w1.grownBy _ none from HT.out.trans (q2g _ (.cells #[.int .i64 p.mn,.int .i64 p.mx,.int .i64 p.bears,.int .i64 p.tall] 28) none));have F5:=q1e (zB HT.out);try replace F0:=q1e (qp (p:=.cells #[.int .i64 p.mn,.int .i64 p.mx,.int .i64 p.bears,.int .i64 p.tall] 28) F0.out)
     refine hK.out _ _ (b0.out _ HT.out) (λa6=>?_);clear hK K;try go_frame
     refine rdy [3] ?_;refine cns 3 (λK hK=>?_) ?_
     ·skip
      go_simp;refine hK.out _ _ (b0.out _ HT.out) (λa6=>?_);clear hK K;try go_frame
      try simp only[q7m]
      refine rdy [6] ?_;refine cns 6 (λK hK=>?_) ?_
      ·skip
       refine qap _ (by rfl) _ _ _ (by rfl) (A+3) 28 i0 _ 4 32 Tryp.und22 d6 d5 c9 c8 rfl (by omega) (.slice (some ⟨_,0,none⟩) 0 0) 0 [] (by rfl) ⟨rfl,.inr ⟨_,0,#[],rfl,(by have:=HS.out;first | exact qas this.symm | (show A+3<=w1.heap.size+1;omega) | (simp only[q4v];exact(qcm (qas this.symm)))),(by first | exact F0.out | (have f:=F0.out;simp only[q4v] at f;exact f)),q3c _,by decide,rfl,rfl⟩⟩ ⟨_,0,none⟩ 1 1 (je p) (by rfl) (by rfl) (q9B (cs:=#[.int .i64 p.mn,.int .i64 p.mx,.int .i64 p.bears,.int .i64 p.tall]) (t:=28) (fr:=(0,0)) (by first | exact F5.out | (have f:=F5.out;simp only[q4v] at f;exact f))) (by simp[qat,je]) (by omega) (by unfold maxLen;omega) (by omega) (HS.out ▸ HT.out.size) _ rfl ?_;intro b6 a8 w6 a7 Z b7 hgl;have b9:=q1e a7;have e4:=q1e Z;replace HT:=q1e (qb4 (row:=none) HT.out Z (λj e=>.inl (by have:=HS.out;simp[q8A] at e;omega)));clear a7 Z b7 hgl;refine hK.out _ _ (b0.out _ HT.out) (λa6=>?_);clear hK K;try go_frame
       refine tk 7 ?_;try go_frame
       refine⟨by kernel_rfl,?_⟩;simp only[q8E,qa5];have qz:=qj (o:=0) (blk HT.out (by simp) b8.out);obtain⟨q0,r0,r1,r2,r3⟩:=a6;have q1:=q8 (blk HT.out (by simp) b8.out) (o:=1) rfl;have z0:=q8 (blk HT.out (by simp) a9.out) (o:=0) rfl;have z1:=q8 (blk HT.out (by simp) a9.out) (o:=1) rfl;have z2:=qj (o:=0) (blk HT.out (by simp) a9.out);have z3:=qj (o:=1) (blk HT.out (by simp) a9.out);go_wp2;have hz:=qg (o:=1) (v:=.int .i64 lim) (qg (o:=0) (v:=.slice (some ⟨b6,0,none⟩) 1 a8) (blk (qe w6 A 0 (.slice (some ⟨b6,0,none⟩) 1 a8)) (by simp;omega) (blk HT.out (by simp) a9.out)));exact qaC (v:=.agg #[.slice (some ⟨b6,0,none⟩) 1 a8,.int .i64 lim]) (by simp[results,qcD,go_sem,q9a,hz]) rfl (vz (ps:=[]) HA.out HG.out HT.out b9.out hl rfl)
      exact qi.nil
     exact qi.nil
    exact qi.nil
   refine cns 5 (λK hK=>?_) ?_
   ·skip
    go_simp;replace HT:=q1e (show w1.grownBy _ none from HT.out.trans (q2g _ (.cells #[.int .i64 p.mn,.int .i64 p.mx,.int .i64 p.bears,.int .i64 p.tall] 28) none));have F5:=q1e (zB HT.out);try replace F0:=q1e (qp (p:=.cells #[.int .i64 p.mn,.int .i64 p.mx,.int .i64 p.bears,.int .i64 p.tall] 28) F0.out)
    refine hK.out _ _ (b0.out _ HT.out) (λa6=>?_);clear hK K;try go_frame
    refine rdy [0] ?_;refine cns 0 (λK hK=>?_) ?_
    ·skip
     go_simp;replace HT:=q1e (show w1.grownBy _ none from HT.out.trans (q2g _ (.cells #[] 28) none));have F0:=q1e (zB HT.out);try replace F5:=q1e (qp (p:=.cells #[] 28) F5.out)
     refine hK.out _ _ (b0.out _ HT.out) (λa6=>?_);clear hK K;try go_frame
     refine rdy [3] ?_;refine cns 3 (λK hK=>?_) ?_
     ·skip
      go_simp;refine hK.out _ _ (b0.out _ HT.out) (λa6=>?_);clear hK K;try go_frame
      try simp only[q7m]
      refine rdy [6] ?_;refine cns 6 (λK hK=>?_) ?_
      ·skip
       refine qap _ (by rfl) _ _ _ (by rfl) (A+3) 28 i0 _ 4 32 Tryp.und22 d6 d5 c9 c8 rfl (by omega) (.slice (some ⟨_,0,none⟩) 0 0) 0 [] (by rfl) ⟨rfl,.inr ⟨_,0,#[],rfl,(by have:=HS.out;first | exact qas this.symm | (show A+3<=w1.heap.size+1;omega) | (simp only[q4v];exact(qcm (qas this.symm)))),(by first | exact F0.out | (have f:=F0.out;simp only[q4v] at f;exact f)),q3c _,by decide,rfl,rfl⟩⟩ ⟨_,0,none⟩ 1 1 (je p) (by rfl) (by rfl) (q9B (cs:=#[.int .i64 p.mn,.int .i64 p.mx,.int .i64 p.bears,.int .i64 p.tall]) (t:=28) (fr:=(0,0)) (by first | exact F5.out | (have f:=F5.out;simp only[q4v] at f;exact f))) (by simp[qat,je]) (by omega) (by unfold maxLen;omega) (by omega) (HS.out ▸ HT.out.size) _ rfl ?_;intro b6 a8 w6 a7 Z b7 hgl;have b9:=q1e a7;have e4:=q1e Z;replace HT:=q1e (qb4 (row:=none) HT.out Z (λj e=>.inl (by have:=HS.out;simp[q8A] at e;omega)));clear a7 Z b7 hgl;refine hK.out _ _ (b0.out _ HT.out) (λa6=>?_);clear hK K;try go_frame
       refine tk 7 ?_;try go_frame
       refine⟨by kernel_rfl,?_⟩;simp only[q8E,qa5];have qz:=qj (o:=0) (blk HT.out (by simp) b8.out);obtain⟨q0,r0,r1,r2,r3⟩:=a6;have q1:=q8 (blk HT.out (by simp) b8.out) (o:=1) rfl;have z0:=q8 (blk HT.out (by simp) a9.out) (o:=0) rfl;have z1:=q8 (blk HT.out (by simp) a9.out) (o:=1) rfl;have z2:=qj (o:=0) (blk HT.out (by simp) a9.out);have z3:=qj (o:=1) (blk HT.out (by simp) a9.out);go_wp2;have hz:=qg (o:=1) (v:=.int .i64 lim) (qg (o:=0) (v:=.slice (some ⟨b6,0,none⟩) 1 a8) (blk (qe w6 A 0 (.slice (some ⟨b6,0,none⟩) 1 a8)) (by simp;omega) (blk HT.out (by simp) a9.out)));exact qaC (v:=.agg #[.slice (some ⟨b6,0,none⟩) 1 a8,.int .i64 lim]) (by simp[results,qcD,go_sem,q9a,hz]) rfl (vz (ps:=[]) HA.out HG.out HT.out b9.out hl rfl)
      exact qi.nil
     exact qi.nil
    exact qi.nil
   exact qi.nil
 ·obtain⟨B,o,cs,fr,rfl,k1,k2,k3,k4⟩:=hc h0
  have e6:0<ps.length:=List.length_pos_iff.2 h0;have e9:∀W,w1.grownBy W none->∀j u,(jA ps)[j]?=some u->W.cell? ((⟨B,o,none⟩:qae).add j)=some u:=λW hW j u hu=>by
   refine yC (q8 (blk hW (by simp) (blk HG.out (by simp) k3)) ?_);have hj:j<ps.length*4:=by
    have:=(q7w.1 hu).1
    rwa [xX] at this
   obtain⟨q,hq,e0,e1,e2,e3⟩:=k4 (j / 4) (by omega);have hd:=Kz ps (j / 4) q hq (j % 4) (by omega);rw[show j / 4*4+j % 4=j by omega] at hd;rw[hd] at hu;have hm:j % 4=0\/j % 4=1\/j % 4=2\/j % 4=3:=by omega
   rcases hm with h | h | h | h<;>rw[h] at hu<;>cases hu
   ·rw[show j=j / 4*4 by omega];exact e0
   ·rw[show j=j / 4*4+1 by omega];exact e1
   ·rw[show j=j / 4*4+2 by omega];exact e2
   ·rw[show j=j / 4*4+3 by omega];exact e3
  have e7:=q1e e9;clear e9 hc k3 k4;go_enter Tryp.func38,Tryz.ntmps38;go_upto_region 1 with(fail)
  rw[<- HA.out,show((w.alloc (.cells #[.slice (some ⟨B,o,none⟩) ps.length yc,.int .i64 lim] 24)).alloc (.cells #[.int .i64 p.mn,.int .i64 p.mx,.int .i64 p.bears,.int .i64 p.tall] 28)).alloc (.cells #[.slice none 0 0,.int .i64 0] 24)=w1 from HW.out.symm];have d9:∀W,w1.grownBy W none->W.cell? ⟨A,0,none⟩=some (.slice (some ⟨B,o,none⟩) ps.length yc)/\W.cell? ⟨A+1,0,none⟩=some (.int .i64 p.mn)/\W.cell? ⟨A+1,1,none⟩=some (.int .i64 p.mx)/\W.cell? ⟨A+1,2,none⟩=some (.int .i64 p.bears)/\W.cell? ⟨A+1,3,none⟩=some (.int .i64 p.tall):=λW h =>
   ⟨q8 (blk h (by simp) d8) rfl,q8 (blk h (by simp) c3) rfl,q8 (blk h (by simp) c3) rfl,q8 (blk h (by simp) c3) rfl,q8 (blk h (by simp) c3) rfl⟩
  have b0:=q1e d9;have b8:=q1e d8;have HT:=q1e (q7k w1 none);clear d9 d8 c3;replace HT:=q1e (qc w1 none);refine qM 8 (λW=>W.cell? ⟨A,0,none⟩=some (.slice (some ⟨B,o,none⟩) ps.length yc)/\W.cell? ⟨A+1,0,none⟩=some (.int .i64 p.mn)/\W.cell? ⟨A+1,1,none⟩=some (.int .i64 p.mx)/\W.cell? ⟨A+1,2,none⟩=some (.int .i64 p.bears)/\W.cell? ⟨A+1,3,none⟩=some (.int .i64 p.tall)) (by kernel_rfl) (by kernel_rfl) (b0.out _ (qc _ _)) (λa6=>?_);simp only[q7a,q7n,q8u,qaz,q7m,q9r,q9s,qa2,q96,q7G];refine tk 1 ?_;try go_frame
  refine tk 2 ?_;try go_frame
  refine tk 4 ?_;try go_frame
  refine rdy [0,5] ?_;refine cns 0 (λK hK=>?_) ?_
  ·skip
   go_simp;replace HT:=q1e (show w1.grownBy _ none from HT.out.trans (q2g _ (.cells #[] 28) none));have F0:=q1e (zB HT.out);try replace F5:=q1e (qp (p:=.cells #[] 28) F5.out)
   refine hK.out _ _ (b0.out _ HT.out) (λa6=>?_);clear hK K;try go_frame
   refine rdy [3,5] ?_;refine cns 3 (λK hK=>?_) ?_
   ·skip
    refine qap _ (by rfl) _ _ _ (by rfl) (A+3) 28 i0 _ 4 32 Tryp.und22 d6 d5 c9 c8 rfl (by omega) (.slice (some ⟨_,0,none⟩) 0 0) 0 [] (by rfl) ⟨rfl,.inr ⟨_,0,#[],rfl,(by have:=HS.out;first | exact qas this.symm | (show A+3<=w1.heap.size+1;omega) | (simp only[q4v];exact(qcm (qas this.symm)))),(by first | exact F0.out | (have f:=F0.out;simp only[q4v] at f;exact f)),q3c _,by decide,rfl,rfl⟩⟩ ⟨B,o,none⟩ ps.length yc (jA ps) (by rfl) (xX ps) (e7.out _ HT.out) (Zv ps) e6 (by unfold maxLen;omega) (by omega) (HS.out ▸ HT.out.size) _ rfl ?_;intro gg cap w5 a7 Z b7 hgl;simp only[q7m,q96] at a7;have d7:=q1e a7;have g7:=q1e Z;replace HT:=q1e (qb4 (row:=none) (show w1.grownBy _ none from HT.out) Z (λj e=>.inl (by simp[q8A] at e;omega)));try replace F5:=q1e (blk Z (by simp[q8A]) F5.out);clear a7 Z b7 hgl;(try simp only[q7m])
    refine hK.out _ _ (b0.out _ HT.out) (λa6=>?_);clear hK K;try go_frame
    refine rdy [5] ?_;refine cns 5 (λK hK=>?_) ?_
    ·skip
     go_simp;replace HT:=q1e (show w1.grownBy _ none from HT.out.trans (q2g _ (.cells #[.int .i64 p.mn,.int .i64 p.mx,.int .i64 p.bears,.int .i64 p.tall] 28) none));have F5:=q1e (zB HT.out);try replace F0:=q1e (qp (p:=.cells #[.int .i64 p.mn,.int .i64 p.mx,.int .i64 p.bears,.int .i64 p.tall] 28) F0.out)
     refine hK.out _ _ (b0.out _ HT.out) (λa6=>?_);clear hK K;try go_frame
     refine rdy [6] ?_;refine cns 6 (λK hK=>?_) ?_
     ·skip
      refine qap _ (by rfl) _ _ _ (by rfl) (A+3) 28 i0 _ 4 32 Tryp.und22 d6 d5 c9 c8 rfl (by omega) (.slice (some ⟨gg,0,none⟩) ps.length cap) ps.length (jA ps) (by rfl) (by first | exact d7.out | exact d7.out.alloc _) ⟨_,0,none⟩ 1 1 (je p) (by rfl) (by rfl) (q9B (cs:=#[.int .i64 p.mn,.int .i64 p.mx,.int .i64 p.bears,.int .i64 p.tall]) (t:=28) (fr:=(0,0)) (by first | exact F5.out | (have f:=F5.out;simp only[q4v] at f;exact f))) (by simp[qat,je]) (by omega) (by unfold maxLen;omega) (by omega) (HS.out ▸ HT.out.size) _ rfl ?_;intro b6 a8 w6 a7 Z b7 hgl;have b9:=q1e a7;have e4:=q1e Z;replace HT:=q1e (qb4 (row:=none) HT.out Z (λj e=>.inl (by have:=(d7.out.lt j e).1;have:=HS.out;omega)));clear a7 Z b7 hgl;refine hK.out _ _ (b0.out _ HT.out) (λa6=>?_);clear hK K;try go_frame
      refine tk 7 ?_;try go_frame
      refine⟨by kernel_rfl,?_⟩;simp only[q8E,qa5];have qz:=qj (o:=0) (blk HT.out (by simp) b8.out);obtain⟨q0,r0,r1,r2,r3⟩:=a6;have q1:=q8 (blk HT.out (by simp) b8.out) (o:=1) rfl;have z0:=q8 (blk HT.out (by simp) a9.out) (o:=0) rfl;have z1:=q8 (blk HT.out (by simp) a9.out) (o:=1) rfl;have z2:=qj (o:=0) (blk HT.out (by simp) a9.out);have z3:=qj (o:=1) (blk HT.out (by simp) a9.out);go_wp2;have hz:=qg (o:=1) (v:=.int .i64 lim) (qg (o:=0) (v:=.slice (some ⟨b6,0,none⟩) (ps.length+1) a8) (blk (qe w6 A 0 (.slice (some ⟨b6,0,none⟩) (ps.length+1) a8)) (by simp;omega) (blk HT.out (by simp) a9.out)));exact qaC (v:=.agg #[.slice (some ⟨b6,0,none⟩) (ps.length+1) a8,.int .i64 lim]) (by simp[results,qcD,go_sem,q9a,hz]) rfl (vz HA.out HG.out HT.out b9.out hl rfl)
     exact qi.nil
    exact qi.nil
   refine cns 5 (λK hK=>?_) ?_
   ·skip
    go_simp;replace HT:=q1e (show w1.grownBy _ none from HT.out.trans (q2g _ (.cells #[.int .i64 p.mn,.int .i64 p.mx,.int .i64 p.bears,.int .i64 p.tall] 28) none));have F5:=q1e (zB HT.out);try replace F0:=q1e (qp (p:=.cells #[.int .i64 p.mn,.int .i64 p.mx,.int .i64 p.bears,.int .i64 p.tall] 28) F0.out)
    refine hK.out _ _ (b0.out _ HT.out) (λa6=>?_);clear hK K;try go_frame
    refine rdy [3] ?_;refine cns 3 (λK hK=>?_) ?_
    ·skip
     refine qap _ (by rfl) _ _ _ (by rfl) (A+3) 28 i0 _ 4 32 Tryp.und22 d6 d5 c9 c8 rfl (by omega) (.slice (some ⟨_,0,none⟩) 0 0) 0 [] (by rfl) ⟨rfl,.inr ⟨_,0,#[],rfl,(by have:=HS.out;first | exact qas this.symm | (show A+3<=w1.heap.size+1;omega) | (simp only[q4v];exact(qcm (qas this.symm)))),(by first | exact F0.out | (have f:=F0.out;simp only[q4v] at f;exact f)),q3c _,by decide,rfl,rfl⟩⟩ ⟨B,o,none⟩ ps.length yc (jA ps) (by rfl) (xX ps) (e7.out _ HT.out) (Zv ps) e6 (by unfold maxLen;omega) (by omega) (HS.out ▸ HT.out.size) _ rfl ?_;intro gg cap w5 a7 Z b7 hgl;simp only[q7m,q96] at a7;have d7:=q1e a7;have g7:=q1e Z;replace HT:=q1e (qb4 (row:=none) (show w1.grownBy _ none from HT.out) Z (λj e=>.inl (by simp[q8A] at e;omega)));try replace F5:=q1e (blk Z (by simp[q8A]) F5.out);clear a7 Z b7 hgl;(try simp only[q7m])
     refine hK.out _ _ (b0.out _ HT.out) (λa6=>?_);clear hK K;try go_frame
     refine rdy [6] ?_;refine cns 6 (λK hK=>?_) ?_
     ·skip
      refine qap _ (by rfl) _ _ _ (by rfl) (A+3) 28 i0 _ 4 32 Tryp.und22 d6 d5 c9 c8 rfl (by omega) (.slice (some ⟨gg,0,none⟩) ps.length cap) ps.length (jA ps) (by rfl) (by first | exact d7.out | exact d7.out.alloc _) ⟨_,0,none⟩ 1 1 (je p) (by rfl) (by rfl) (q9B (cs:=#[.int .i64 p.mn,.int .i64 p.mx,.int .i64 p.bears,.int .i64 p.tall]) (t:=28) (fr:=(0,0)) (by first | exact F5.out | (have f:=F5.out;simp only[q4v] at f;exact f))) (by simp[qat,je]) (by omega) (by unfold maxLen;omega) (by omega) (HS.out ▸ HT.out.size) _ rfl ?_;intro b6 a8 w6 a7 Z b7 hgl;have b9:=q1e a7;have e4:=q1e Z;replace HT:=q1e (qb4 (row:=none) HT.out Z (λj e=>.inl (by have:=(d7.out.lt j e).1;have:=HS.out;omega)));clear a7 Z b7 hgl;refine hK.out _ _ (b0.out _ HT.out) (λa6=>?_);clear hK K;try go_frame
      refine tk 7 ?_;try go_frame
      refine⟨by kernel_rfl,?_⟩;simp only[q8E,qa5];have qz:=qj (o:=0) (blk HT.out (by simp) b8.out);obtain⟨q0,r0,r1,r2,r3⟩:=a6;have q1:=q8 (blk HT.out (by simp) b8.out) (o:=1) rfl;have z0:=q8 (blk HT.out (by simp) a9.out) (o:=0) rfl;have z1:=q8 (blk HT.out (by simp) a9.out) (o:=1) rfl;have z2:=qj (o:=0) (blk HT.out (by simp) a9.out);have z3:=qj (o:=1) (blk HT.out (by simp) a9.out);go_wp2;have hz:=qg (o:=1) (v:=.int .i64 lim) (qg (o:=0) (v:=.slice (some ⟨b6,0,none⟩) (ps.length+1) a8) (blk (qe w6 A 0 (.slice (some ⟨b6,0,none⟩) (ps.length+1) a8)) (by simp;omega) (blk HT.out (by simp) a9.out)));exact qaC (v:=.agg #[.slice (some ⟨b6,0,none⟩) (ps.length+1) a8,.int .i64 lim]) (by simp[results,qcD,go_sem,q9a,hz]) rfl (vz HA.out HG.out HT.out b9.out hl rfl)
     exact qi.nil
    exact qi.nil
   exact qi.nil
  refine cns 5 (λK hK=>?_) ?_
  ·skip
   go_simp;replace HT:=q1e (show w1.grownBy _ none from HT.out.trans (q2g _ (.cells #[.int .i64 p.mn,.int .i64 p.mx,.int .i64 p.bears,.int .i64 p.tall] 28) none));have F5:=q1e (zB HT.out);try replace F0:=q1e (qp (p:=.cells #[.int .i64 p.mn,.int .i64 p.mx,.int .i64 p.bears,.int .i64 p.tall] 28) F0.out)
   refine hK.out _ _ (b0.out _ HT.out) (λa6=>?_);clear hK K;try go_frame
   refine rdy [0] ?_;refine cns 0 (λK hK=>?_) ?_
   ·skip
    go_simp;replace HT:=q1e (show w1.grownBy _ none from HT.out.trans (q2g _ (.cells #[] 28) none));have F0:=q1e (zB HT.out);try replace F5:=q1e (qp (p:=.cells #[] 28) F5.out)
    refine hK.out _ _ (b0.out _ HT.out) (λa6=>?_);clear hK K;try go_frame
    refine rdy [3] ?_;refine cns 3 (λK hK=>?_) ?_
    ·skip
     refine qap _ (by rfl) _ _ _ (by rfl) (A+3) 28 i0 _ 4 32 Tryp.und22 d6 d5 c9 c8 rfl (by omega) (.slice (some ⟨_,0,none⟩) 0 0) 0 [] (by rfl) ⟨rfl,.inr ⟨_,0,#[],rfl,(by have:=HS.out;first | exact qas this.symm | (show A+3<=w1.heap.size+1;omega) | (simp only[q4v];exact(qcm (qas this.symm)))),(by first | exact F0.out | (have f:=F0.out;simp only[q4v] at f;exact f)),q3c _,by decide,rfl,rfl⟩⟩ ⟨B,o,none⟩ ps.length yc (jA ps) (by rfl) (xX ps) (e7.out _ HT.out) (Zv ps) e6 (by unfold maxLen;omega) (by omega) (HS.out ▸ HT.out.size) _ rfl ?_;intro gg cap w5 a7 Z b7 hgl;simp only[q7m,q96] at a7;have d7:=q1e a7;have g7:=q1e Z;replace HT:=q1e (qb4 (row:=none) (show w1.grownBy _ none from HT.out) Z (λj e=>.inl (by simp[q8A] at e;omega)));try replace F5:=q1e (blk Z (by simp[q8A]) F5.out);clear a7 Z b7 hgl;(try simp only[q7m])
     refine hK.out _ _ (b0.out _ HT.out) (λa6=>?_);clear hK K;try go_frame
     refine rdy [6] ?_;refine cns 6 (λK hK=>?_) ?_
     ·skip
      refine qap _ (by rfl) _ _ _ (by rfl) (A+3) 28 i0 _ 4 32 Tryp.und22 d6 d5 c9 c8 rfl (by omega) (.slice (some ⟨gg,0,none⟩) ps.length cap) ps.length (jA ps) (by rfl) (by first | exact d7.out | exact d7.out.alloc _) ⟨_,0,none⟩ 1 1 (je p) (by rfl) (by rfl) (q9B (cs:=#[.int .i64 p.mn,.int .i64 p.mx,.int .i64 p.bears,.int .i64 p.tall]) (t:=28) (fr:=(0,0)) (by first | exact F5.out | (have f:=F5.out;simp only[q4v] at f;exact f))) (by simp[qat,je]) (by omega) (by unfold maxLen;omega) (by omega) (HS.out ▸ HT.out.size) _ rfl ?_;intro b6 a8 w6 a7 Z b7 hgl;have b9:=q1e a7;have e4:=q1e Z;replace HT:=q1e (qb4 (row:=none) HT.out Z (λj e=>.inl (by have:=(d7.out.lt j e).1;have:=HS.out;omega)));clear a7 Z b7 hgl;refine hK.out _ _ (b0.out _ HT.out) (λa6=>?_);clear hK K;try go_frame
      refine tk 7 ?_;try go_frame
      refine⟨by kernel_rfl,?_⟩;simp only[q8E,qa5];have qz:=qj (o:=0) (blk HT.out (by simp) b8.out);obtain⟨q0,r0,r1,r2,r3⟩:=a6;have q1:=q8 (blk HT.out (by simp) b8.out) (o:=1) rfl;have z0:=q8 (blk HT.out (by simp) a9.out) (o:=0) rfl;have z1:=q8 (blk HT.out (by simp) a9.out) (o:=1) rfl;have z2:=qj (o:=0) (blk HT.out (by simp) a9.out);have z3:=qj (o:=1) (blk HT.out (by simp) a9.out);go_wp2;have hz:=qg (o:=1) (v:=.int .i64 lim) (qg (o:=0) (v:=.slice (some ⟨b6,0,none⟩) (ps.length+1) a8) (blk (qe w6 A 0 (.slice (some ⟨b6,0,none⟩) (ps.length+1) a8)) (by simp;omega) (blk HT.out (by simp) a9.out)));exact qaC (v:=.agg #[.slice (some ⟨b6,0,none⟩) (ps.length+1) a8,.int .i64 lim]) (by simp[results,qcD,go_sem,q9a,hz]) rfl (vz HA.out HG.out HT.out b9.out hl rfl)
     exact qi.nil
    exact qi.nil
   exact qi.nil
  exact qi.nil
theorem Zs{wr w:q2q}{Y n:Nat}{vb:Option qae}{vc:Nat}{ps:List Par}{c d:q4b}(hT:wr.grownBy w none)(hY:w.heap[Y]?=some (.cells #[c,d] 24 (0,0)))(hP:qq 0 w.heap.size w (.slice vb n vc) ps)(hw:wr.heap.size<=Y) :
  wr.grownBy ((w.setCell ⟨Y,0,none⟩ (.slice vb n vc)).setCell ⟨Y,1,none⟩ (.int .i64 12)) none/\((w.setCell ⟨Y,0,none⟩ (.slice vb n vc)).setCell ⟨Y,1,none⟩ (.int .i64 12)).heap[Y]?=some (.cells #[.slice vb n vc,.int .i64 12] 24 (0,0)) /\
   qq 0 ((w.setCell ⟨Y,0,none⟩ (.slice vb n vc)).setCell ⟨Y,1,none⟩ (.int .i64 12)).heap.size ((w.setCell ⟨Y,0,none⟩ (.slice vb n vc)).setCell ⟨Y,1,none⟩ (.int .i64 12)) (.slice vb n vc) ps:=by
 have h1:=qg (o:=0) (v:=.slice vb n vc) hY;refine⟨(hT.andThen (qe w Y 0 _) (by rintro j e;cases e;exact .inl hw)).andThen (qe _ Y 1 _) (by rintro j e;cases e;exact .inl hw),qg (o:=1) (v:=.int .i64 12) h1,?_⟩;have h2:=qq.kept_ty (qq.kept_ty hP (qe w Y 0 (.slice vb n vc)) hY (by decide)) (qe _ Y 1 (.int .i64 12)) h1 (by decide);exact h2.mono (q3c _) (by simp[qb7])
end Go.Proofs.YtidgnkmjgioapaaGreat
end
section
namespace Go.Proofs.YtidgnkmjgioapaaGreat
open Go Go.RowKit Go.Co Go.Sim Go.Conc Go.ConcN
section
variable[J:JunkSet]{Post:q4b->q2q->Prop}{W:q2q}
theorem el5(D:Two Tryp.prog q7f)(hok:JunkSet.okf 137)(m4:∀i,¬ JunkSet.jk i)(hin:Tryp.prog.inits.idxOf? 5=none)(d5:Tryz.prog.inits.idxOf? 5=none){base:Option qae}{len cap:Nat}
  {wq:q2q} (hl:(len:Int)<=9223372036854775807) (hr:0<len->∃lb lo,base=some ⟨lb,lo,none⟩/\∀i,i<len->∃x,wq.cell? ⟨lb,lo+i,none⟩=some (.int .i64 x)) (h0:qV wq 0)
  (b8:∀w,(∀j,j<W.heap.size->w.heap[j]?=W.heap[j]?)->w.os=W.os->w.output=W.output->W.heap.size<=w.heap.size->Post (.bool true) w) :
  EL Tryp.prog q7f 5 Post W (G (q9t Tryp.prog 5 #[.slice base len cap] .normal) [ql 5]) wq:=by
 have hs:Tryp.prog.funcs[(q8g 5).fn]?=Tryz.prog.funcs[(q8g 5).fn]?:=z8 5 (by decide);have hb:Bot 5 [ql 5]:=⟨[],rfl⟩
 rw[q6j (fn:=Tryz.f5) (c0:=Tryz.f5.body.getD .skip) Tryp.func5 (by kernel_rfl)];simp only[Tryz.f5,q6r];walk_nrm;refine EL.seq D hb hs ?_;refine EL.piece D hb hs λT=>?_;go_wp2;refine EL.tape (wq:=wq) ?_ T;refine EL.seq D hb hs ?_;refine EL.piece D hb hs λT=>?_;have HR:=q1e hr;clear hr;go_wp2_with (first
  | (go_at_call 24;refine(q44 base len cap (wq.tp T) hl HR.out).mono ?_;rintro e w2 ⟨rfl,m7,h8⟩;have G2:=q1e m7;have T2:=q1e h8;clear m7 h8))
 obtain⟨b,e4⟩:∃b,b=(wq.tp T).heap.size:=⟨_,rfl⟩
 rw[<- e4] at T2 ⊢;have p9:=q1e (show b=wq.heap.size from e4);refine jq (λu=>(wq.tp u.tape).grownBy u none/\qS u b 0) ⟨tpg G2.out,T2.out⟩ λu1 hF=>?_;obtain⟨g1,t1⟩:=hF;clear G2 T2 e4 HR;refine EL.seq D hb hs ?_;refine EL.piece D hb hs λT=>?_;go_wp2_with (first
  | (go_at_call 33;refine(q3e b 0 4 (u1.tp T) t1 (by omega) (by omega)).mono ?_;rintro e w2 ⟨ps,lim,yv,g6,rfl,l9,d8⟩;have N2:=q1e l9;have P2:=q1e d8;have YD:=q1e g6;obtain⟨yb,yc,rfl,-,-⟩:=d8.cell;clear l9 d8 g6))
 obtain⟨X,hX⟩:∃X,X=w2.heap.size:=⟨_,rfl⟩
 rw[<- hX];have q6:wq.heap.size<=X:=by
  have h1:wq.heap.size<=u1.heap.size:=g1.size;have h2:u1.heap.size<=w2.heap.size:=N2.out.1.size;omega
 have n2:b<X:=by
  have h1:=t1.lt;have h2:u1.heap.size<=w2.heap.size:=N2.out.1.size;omega
 have m9:b<u1.heap.size:=t1.lt;have b0:=q2g w2 (.cells #[.slice yb ps.length yc,.int .i64 lim] 24) none;refine jq (λq=>(wq.tp q.tape).grownBy q none/\qS q b 31/\q.heap[X]?=some (.cells #[.slice yb ps.length yc,.int .i64 lim] 24 (0,0))/\qq u1.heap.size X q (.slice yb ps.length yc) ps) ⟨gb (gnew g1 (tpg N2.out.1) (qas p9.out.symm)) (tpg (T:=w2.tape) b0),N2.out.2.alloc _,by rw[hX];exact q4w _ _,by rw[hX];exact P2.out.alloc _⟩ λu2 hF=>?_;obtain⟨g2,t2,x2,p2⟩:=hF;have c9:=YD.out.yok12 (by decide);have c3:ps.length<=4:=YD.out.len;have n8:∀p∈ps,p.tall<=2:=λp hp=>(YD.out.each p hp).h;have q0:=q1e n8;have a9:=q1e c9;clear b0 N2 P2 hX g1 t1 YD c9 n8;refine EL.seq D hb hs ?_;refine EL.piece D hb hs λT=>?_;have c1:=q8 (w:=u2.tp T) x2 (o:=1) rfl;have z1:=qj (w:=u2.tp T) x2 (o:=1);go_wp2;refine jq (λq=>(wq.tp q.tape).grownBy q none/\qS q b 31/\q.heap[X]?=some (.cells #[.slice yb ps.length yc,.int .i64 12] 24 (0,0))/\qq u1.heap.size q.heap.size q (.slice yb ps.length yc) ps) ⟨gnew g2 (tpg (qe (u2.tp T) X 1 (.int .i64 12))) q6,qS.set (w:=u2.tp T) t2 n2,by rw[qg (w:=u2.tp T) x2];rfl,(qq.kept (w:=u2.tp T) p2 (qe _ X 1 _) (by rintro R h;cases h;exact .inr (q3c _))).mono (q3c _) (by have:=(q49.1 x2).1;simp only[qb7,Array.size_modify];exact Nat.le_of_lt this)⟩ λu2 hF=>?_;obtain⟨g2,t2,x2,p2⟩:=hF;refine EL.seq D hb hs ?_;refine EL.piece D hb hs λT=>?_;have c0:=q8 (w:=u2.tp T) x2 (o:=0) rfl;have c1:=q8 (w:=u2.tp T) x2 (o:=1) rfl;go_wp2_with (first
  | (go_at_call 34;refine(q48 b 31 u1.heap.size _ ps 12 (u2.tp T) t2 (by omega) p2 m9 a9.out.len (by have:=a9.out.l1;omega) (by have:=a9.out.l2;omega) (λp hp=>by have:=a9.out.each p hp;omega)).mono ?_;rintro e w3 ⟨l,lv,l7,rfl,l8,d9,b9⟩;have N3:=q1e l8;have I3:=q1e d9;have PK:=q1e l7;obtain⟨lb,lc,rfl,-,-⟩:=d9.cell;have r8:=q1e (b9 _ _ _ rfl);clear l8 d9 l7 b9))
 have n3:b≠X:=λe=>by
  have h:=x2;obtain⟨_,_,_,_,_,_,q5,_⟩:=t2;rw[<- e,q5] at h;injection h with h;injection h with _ h _;exact absurd h (by decide)
 refine jq (λq=>(wq.tp q.tape).grownBy q none/\q.heap[X]?=some (.cells #[.slice yb ps.length yc,.int .i64 12] 24 (0,0))/\qq 0 q.heap.size q (.slice yb ps.length yc) ps/\qf 0 q.heap.size q (.slice lb l.length lc) l) ⟨gnew g2 (tpg N3.out.1) (qas p9.out.symm),blk (w:=u2.tp T) N3.out.1 (by simpa using n3.symm) x2,(qq.kept (w:=u2.tp T) p2 N3.out.1 (λR e=>by cases e;exact .inl m9)).mono (q9f _) N3.out.1.size,I3.out.mono (q9f _) (q3c _)⟩ λu3 hF=>?_;obtain⟨g3,x3,p3,l3⟩:=hF;clear N3 I3 g2 t2 x2 p2 c0 c1 n3;obtain⟨sa,sb,se,h9,k8⟩:=YN ps l;have p6:=q1e h9;have p7:=q1e k8;clear h9 k8;refine EL.seq D hb hs ?_;refine EL.piece D hb hs λT=>?_;have c0:=q8 (w:=u3.tp T) x3 (o:=0) rfl;have c1:=q8 (w:=u3.tp T) x3 (o:=1) rfl;go_wp2_with (first
  | (go_at_call 36;refine(Kt 0 u3.heap.size _ _ ps 12 l (u3.tp T) p3 l3 (q3c _) a9.out PK.out).mono ?_;rintro e w4 ⟨rfl,m6⟩;rw[p6.out];have G4:=q1e m6;clear m6))
 obtain⟨S,hS⟩:∃S,S=w4.heap.size:=⟨_,rfl⟩
 rw[<- hS];have b0:=G4.out.trans (q2g w4 (.cells #[.int .i64 sa,.int .i64 sb] 26) none);refine jq (λq=>(wq.tp q.tape).grownBy q none/\q.heap[X]?=some (.cells #[.slice yb ps.length yc,.int .i64 12] 24 (0,0))/\q.heap[S]?=some (.cells #[.int .i64 sa,.int .i64 sb] 26 (0,0))/\qq 0 q.heap.size q (.slice yb ps.length yc) ps/\qf 0 q.heap.size q (.slice lb l.length lc) l) ⟨gb g3 (tpg b0),blk (w:=u3.tp T) b0 (by simp) x3,by rw[hS];exact q4w _ _,(qq.kept (w:=u3.tp T) p3 b0 (by simp)).mono (q3c _) b0.size,l3.kn b0⟩ λu4 hF=>?_;obtain⟨g4,x4,s4,p4,l4⟩:=hF;clear G4 g3 x3 p3 l3 c0 c1 b0 hS p6;refine EL.seq D hb hs ?_;refine EL.piece D hb hs λT=>?_;have c0:=q8 (w:=u4.tp T) x4 (o:=0) rfl;have c1:=q8 (w:=u4.tp T) x4 (o:=1) rfl;obtain⟨v,hv⟩:∃v,v=zJ ps l:=⟨_,rfl⟩
 have HV:=q1e hv;clear hv;go_wp2_with (first
  | (go_at_call 37;refine(xS 0 u4.heap.size _ _ ps 12 l (u4.tp T) p4 l4 (q3c _) a9.out PK.out).mono ?_;rintro e w5 ⟨rfl,m5⟩;rw[<- HV.out];have G5:=q1e m5;clear m5))
 refine jq (λq=>(wq.tp q.tape).grownBy q none/\q.heap[X]?=some (.cells #[.slice yb ps.length yc,.int .i64 12] 24 (0,0))/\q.heap[S]?=some (.cells #[.int .i64 sa,.int .i64 sb] 26 (0,0))/\qq 0 q.heap.size q (.slice yb ps.length yc) ps/\qf 0 q.heap.size q (.slice lb l.length lc) l) ⟨gb g4 (tpg G5.out),blk (w:=u4.tp T) G5.out (by simp) x4,blk (w:=u4.tp T) G5.out (by simp) s4,(qq.kept (w:=u4.tp T) p4 G5.out (by simp)).mono (q3c _) G5.out.size,l4.kn G5.out⟩ λu5 hF=>?_;obtain⟨g5,x5,s5,p5,l5⟩:=hF;clear G5 g4 x4 s4 p4 l4 c0 c1;refine EL.seq D hb hs ?_;refine EL.piece D hb hs λT=>?_;go_wp2;refine EL.tape (wq:=u5) ?_ T;have k7:(se=0/\(¬ (qC ps (pre Par.mn ps ps.length) l l.length<0\/l.length=0)/\sa=max (-1) (qC ps (pre Par.mx ps ps.length) l l.length)/\sb=qC ps (pre Par.mn ps ps.length) l l.length))\/(se=11/\(qC ps (pre Par.mn ps ps.length) l l.length<0\/l.length=0)/\sa=0/\sb=0):=p7.out;clear p7;rcases k7 with⟨rfl,hsp⟩ | ⟨rfl,hsp,rfl,rfl⟩
 rotate_left
 ·have q4:((l.length:Int) == 0)=true\/(((l.length:Int) == 0)=false/\v=2):=by
   by_cases h:l.length=0
   ·exact .inl (by simp[h])
   ·exact .inr ⟨by rw[beq_eq_false_iff_ne];omega,HV.out.trans (q8d a9.out PK.out.ok (hsp.resolve_right h))⟩
  clear hsp;have S5:=q1e s5;refine EL.seq D hb hs ?_;refine EL.seq D hb hs ?_;rcases q4 with m8 | ⟨m8,rfl⟩
  all_goals
   refine EL.piece D hb hs λT=>?_;go_wp2;refine EL.tape (wq:=u5) ?_ T;refine EL.cond D hb hs true (by rfl) ?_;simp only[if_true];refine EL.seq D hb hs ?_;refine EL.region D hb hs ?_;simp only[q8B,q7a,q7n,q8u,q7m,q9g,q9H];refine EL.list D hb hs [0,1,2,3,4,5,6,7] [_,_,_,_,_,_,_,_] (rest:=[8,9,10]) rfl λT3=>?_;have k0:=q8 (w:=u5.tp T3) S5.out (o:=0) rfl;have k1:=q8 (w:=u5.tp T3) S5.out (o:=1) rfl;have r3:∀w,(binOp .eql 26 (.agg #[.int .i64 0,.int .i64 0]) (.agg #[.int .i64 0,.int .i64 0])).run Tryp.prog w=.ok (.bool true) w:=λw=>by rw[q38];simp
   have q7:=QK;go_wp2;refine EL.tape (wq:=u5) ?_ T3;clear r3 q7 k0 k1;refine EL.enter D hb hs (fk:=23) (args:=#[]) rfl rfl (λT=>by rw[run_call_body (f:=23) rfl Tryp.func23 (by kernel_rfl) rfl];walk_nrm) (z8 23 (by decide)) ?_;refine el23 D hok m4 hin ⟨_,Tryp.func5,Tryz.func5⟩ ?_ _ [ql 5] hb hs λv u hR=>?_
   ·obtain⟨cs,e,g,h0,b7⟩:=h0
    exact⟨cs,e,g,blk (w:=wq.tp u5.tape) g5 (by simp) h0,b7⟩
   obtain⟨rfl,q3⟩:=hR;rw[qbn];walk_nrm;refine EL.list D hb hs [9,10] [_,_] (rest:=[]) rfl λT4=>?_;go_wp2;refine EL.tape (wq:=u) ?_ T4;refine EL.region_end D hb hs ?_;refine EL.retS D hb hs ?_;exact EL.last d5 rfl rfl Tryz.func5 rfl rfl b8
 ·obtain⟨hsp,d7,d6⟩:=hsp
  have q2:¬ l.length=0:=λh=>hsp (.inr h);have hy:=q62 a9.out PK.out.ok (λh=>hsp (.inl h)) d7 d6;rw[<- HV.out] at hy;obtain⟨g9,s3,hab,r7⟩:=hy;have m8:((l.length:Int) == 0)=false:=by rw[beq_eq_false_iff_ne];omega
  have g7:(v=3/\(sa == -1)=true)\/(v=1/\(sa == -1)=false):=g9.imp (λh=>⟨h.1,by simp[h.2]⟩) (λh=>⟨h.1,by rw[beq_eq_false_iff_ne];exact h.2⟩);have r5:=q1e d7;have r4:=q1e d6;have S5:=q1e s5;have X5:=q1e x5;have P5:=q1e p5;have L5:=q1e l5;have G5:=q1e g5;clear hsp d7 d6 g9 s5 x5 p5 l5 g5;refine EL.seq D hb hs ?_;rcases g7 with⟨rfl,q1⟩ | ⟨rfl,q1⟩
  all_goals
   refine EL.piece D hb hs λT=>?_;go_wp2;refine EL.tape (wq:=u5) ?_ T;refine EL.seq D hb hs ?_;refine EL.piece D hb hs λT=>?_;have k0:=q8 (w:=u5.tp T) S5.out (o:=0) rfl;have k1:=q8 (w:=u5.tp T) S5.out (o:=1) rfl;go_wp2;refine EL.tape (wq:=u5) ?_ T;clear k0 k1;refine EL.seq D hb hs ?_;refine EL.piece D hb hs λT=>?_;have k9:∀w,(u5.tp T).grownBy w none->w.cell? ⟨X,0,none⟩=some (.slice yb ps.length yc)/\w.cell? ⟨X,1,none⟩=some (.int .i64 12):=λw h=>⟨q8 (blk h (by simp) (show(u5.tp T).heap[X]?=_ from X5.out)) rfl,q8 (blk h (by simp) (show(u5.tp T).heap[X]?=_ from X5.out)) rfl⟩
   have k5:∀w,(u5.tp T).grownBy w none->w.cell? ⟨S,0,none⟩=some (.int .i64 sa)/\w.cell? ⟨S,1,none⟩=some (.int .i64 sb):=λw h=>⟨q8 (blk h (by simp) (show(u5.tp T).heap[S]?=_ from S5.out)) rfl,q8 (blk h (by simp) (show(u5.tp T).heap[S]?=_ from S5.out)) rfl⟩
   have l6:∀w,(u5.tp T).grownBy w none->qq 0 w.heap.size w (.slice yb ps.length yc) ps:=λw h=>(qq.kept (w:=u5.tp T) P5.out h (by simp)).mono (q3c _) h.size;have m3:∀w,(u5.tp T).grownBy w none->qf 0 w.heap.size w (.slice lb l.length lc) l:=λw h=>(qf.kept (w:=u5.tp T) L5.out h (by simp)).mono (q3c _) h.size;have SC:=q1e k9;have SS:=q1e k5;have PR:=q1e l6;have LR:=q1e m3;have r9:l.length<=100:=PK.out.len;clear k9 k5 l6 m3;go_wp2;go_loopw [10] (λiv wr=>∃k:Nat,iv=.int .i64 k/\1<=k/\k<=13/\(u5.tp T).grownBy wr none) (λiv _=>(13 - qaA iv).toNat)
   case atStart=>exact⟨1,rfl,by omega,by omega,q7k _ _⟩
   case round =>
    obtain⟨k,rfl,s2,hk,hG⟩:=hrel;have a6:=q1e hG;clear hG;by_cases hlt:k<=12
    ·have s1:(k:Int)<=12:=by omega
     go_upto_region 16 with(fail)
     go_cut [11] from 80 to 122 (λpv w=>∃Y vb vc,pv=.pointer (some ⟨Y,0,none⟩)/\wr.grownBy w none/\w.heap[Y]?=some (.cells #[.slice vb (ps.length+1) vc,.int .i64 12] 24 (0,0))/\qq 0 w.heap.size w (.slice vb (ps.length+1) vc) (ps++[(⟨(k:Int),k,0,1⟩:Par)]))
     case first =>
      have HT:=q1e (qc wr none);refine qM 6 (λW=>W.cell? ⟨X,0,none⟩=some (.slice yb ps.length yc)/\W.cell? ⟨X,1,none⟩=some (.int .i64 12)) (by kernel_rfl) (by kernel_rfl) (SC.out _ (a6.out.trans (qc _ _))) (λZ=>?_);simp only[q7a,q7n,q8u,qaz,q7m,q9r,q9s,qa2,q96,q7G];generalize wr.drew=W0 at Z HT ⊢;refine tk 0 ?_;try go_frame
      refine tk 1 ?_;try go_frame
      refine tk 2 ?_;try go_frame
      refine rdy [3,5] ?_;refine cns 3 (λK hK=>?_) ?_
      ·skip
       go_simp;go_at_call 39;refine(Qz _ _ _ _ _).mono ?_;rintro e w1 ⟨rfl,hg⟩;replace HT:=q1e (HT.out.trans hg);try replace F5:=q1e (blk hg (by simp) F5.out)
       clear hg;refine hK.out _ _ (SC.out _ (a6.out.trans HT.out)) (λZ=>?_);clear hK K;try go_frame
       refine rdy [4,5] ?_;refine cns 4 (λK hK=>?_) ?_
       ·skip
        go_simp;go_at_call 38;refine(Zk 0 _ _ ps 12 ⟨k,k,0,1⟩ _ (PR.out _ (a6.out.trans HT.out)) (q3c _) (by omega)).mono ?_;rintro e w2 ⟨v',rfl,hg,hq⟩;obtain⟨vb,vc,e0,-,-⟩:=hq.cell;rw[show(ps++[(⟨(k:Int),k,0,1⟩:Par)]).length=ps.length+1 by simp] at e0;subst e0;have HQ:=q1e (hq.mono (q9f _) (q3c _));replace HT:=q1e (HT.out.trans hg);try replace F5:=q1e (blk hg (by simp) F5.out)
        clear hg hq;refine hK.out _ _ (SC.out _ (a6.out.trans HT.out)) (λZ=>?_);clear hK K;try go_frame
        refine rdy [5] ?_;refine cns 5 (λK hK=>?_) ?_
        ·skip
         go_simp;have FY:=q1e HT.out.size;replace HT:=q1e (show wr.grownBy _ none from HT.out.trans (q2g _ (.cells #[.slice none 0 0,.int .i64 0] 24) none));have F5:=q1e (zB HT.out);try replace HQ:=q1e ((qq.alloc HQ.out (.cells #[.slice none 0 0,.int .i64 0] 24)).mono (q3c _) (q2g _ (.cells #[.slice none 0 0,.int .i64 0] 24) none).size)
         refine hK.out _ _ (SC.out _ (a6.out.trans HT.out)) (λZ=>?_);clear hK K;try go_frame
         refine⟨by kernel_rfl,?_⟩;simp only[q8E,qa5];try generalize (w2.alloc (.cells #[.slice none 0 0,.int .i64 0] 24))=WA at HT F5 HQ Z ⊢
         have z0:=q8 F5.out (o:=0) rfl;have z1:=q8 F5.out (o:=1) rfl;have z2:=qj (o:=0) F5.out;have z3:=qj (o:=1) F5.out;go_wp2;go_meet;exact⟨_,vb,vc,rfl,Zs HT.out F5.out HQ.out FY.out⟩
        exact qi.nil
       refine cns 5 (λK hK=>?_) ?_
       ·skip
        go_simp;have FY:=q1e HT.out.size;replace HT:=q1e (show wr.grownBy _ none from HT.out.trans (q2g _ (.cells #[.slice none 0 0,.int .i64 0] 24) none));have F5:=q1e (zB HT.out);try replace HQ:=q1e ((qq.alloc HQ.out (.cells #[.slice none 0 0,.int .i64 0] 24)).mono (q3c _) (q2g _ (.cells #[.slice none 0 0,.int .i64 0] 24) none).size)
        refine hK.out _ _ (SC.out _ (a6.out.trans HT.out)) (λZ=>?_);clear hK K;try go_frame
        refine rdy [4] ?_;refine cns 4 (λK hK=>?_) ?_
        ·skip
         go_simp;go_at_call 38;refine(Zk 0 _ _ ps 12 ⟨k,k,0,1⟩ _ (PR.out _ (a6.out.trans HT.out)) (q3c _) (by omega)).mono ?_;rintro e w2 ⟨v',rfl,hg,hq⟩;obtain⟨vb,vc,e0,-,-⟩:=hq.cell;rw[show(ps++[(⟨(k:Int),k,0,1⟩:Par)]).length=ps.length+1 by simp] at e0;subst e0;have HQ:=q1e (hq.mono (q9f _) (q3c _));replace HT:=q1e (HT.out.trans hg);try replace F5:=q1e (blk hg (by simp) F5.out)
         clear hg hq;refine hK.out _ _ (SC.out _ (a6.out.trans HT.out)) (λZ=>?_);clear hK K;try go_frame
         refine⟨by kernel_rfl,?_⟩;simp only[q8E,qa5];try generalize (w2.alloc (.cells #[.slice none 0 0,.int .i64 0] 24))=WA at HT F5 HQ Z ⊢
         have z0:=q8 F5.out (o:=0) rfl;have z1:=q8 F5.out (o:=1) rfl;have z2:=qj (o:=0) F5.out;have z3:=qj (o:=1) F5.out;go_wp2;go_meet;exact⟨_,vb,vc,rfl,Zs HT.out F5.out HQ.out FY.out⟩
        exact qi.nil
       exact qi.nil
      refine cns 5 (λK hK=>?_) ?_
      ·skip
       go_simp;have FY:=q1e HT.out.size;replace HT:=q1e (show wr.grownBy _ none from HT.out.trans (q2g _ (.cells #[.slice none 0 0,.int .i64 0] 24) none));have F5:=q1e (zB HT.out);try replace HQ:=q1e ((qq.alloc HQ.out (.cells #[.slice none 0 0,.int .i64 0] 24)).mono (q3c _) (q2g _ (.cells #[.slice none 0 0,.int .i64 0] 24) none).size)
       refine hK.out _ _ (SC.out _ (a6.out.trans HT.out)) (λZ=>?_);clear hK K;try go_frame
       refine rdy [3] ?_;refine cns 3 (λK hK=>?_) ?_
       ·skip
        go_simp;go_at_call 39;refine(Qz _ _ _ _ _).mono ?_;rintro e w1 ⟨rfl,hg⟩;replace HT:=q1e (HT.out.trans hg);try replace F5:=q1e (blk hg (by simp) F5.out)
        clear hg;refine hK.out _ _ (SC.out _ (a6.out.trans HT.out)) (λZ=>?_);clear hK K;try go_frame
        refine rdy [4] ?_;refine cns 4 (λK hK=>?_) ?_
        ·skip
         go_simp;go_at_call 38;refine(Zk 0 _ _ ps 12 ⟨k,k,0,1⟩ _ (PR.out _ (a6.out.trans HT.out)) (q3c _) (by omega)).mono ?_;rintro e w2 ⟨v',rfl,hg,hq⟩;obtain⟨vb,vc,e0,-,-⟩:=hq.cell;rw[show(ps++[(⟨(k:Int),k,0,1⟩:Par)]).length=ps.length+1 by simp] at e0;subst e0;have HQ:=q1e (hq.mono (q9f _) (q3c _));replace HT:=q1e (HT.out.trans hg);try replace F5:=q1e (blk hg (by simp) F5.out)
         clear hg hq;refine hK.out _ _ (SC.out _ (a6.out.trans HT.out)) (λZ=>?_);clear hK K;try go_frame
         refine⟨by kernel_rfl,?_⟩;simp only[q8E,qa5];try generalize (w2.alloc (.cells #[.slice none 0 0,.int .i64 0] 24))=WA at HT F5 HQ Z ⊢
         have z0:=q8 F5.out (o:=0) rfl;have z1:=q8 F5.out (o:=1) rfl;have z2:=qj (o:=0) F5.out;have z3:=qj (o:=1) F5.out;go_wp2;go_meet;exact⟨_,vb,vc,rfl,Zs HT.out F5.out HQ.out FY.out⟩
        exact qi.nil
       exact qi.nil
      exact qi.nil
     case rest =>
      obtain⟨Y,vb,vc,rfl,n7,n4,n6⟩:=hcut;have HC:=q1e (a6.out.trans n7);have c8:=q1e n4;have p8:=q1e n6;clear n7 n4 n6;obtain⟨x0,x1⟩:=SC.out _ HC.out;have y0:=q8 c8.out (o:=0) rfl;have y1:=q8 c8.out (o:=1) rfl;go_upto_region 17 with(fail)
      go_cut [12,13] from 80 to 122 (λvv ev w=>vv=.int .i64 (zJ (ps++[(⟨(k:Int),k,0,1⟩:Par)]) (l++[(ps.length:Int)]))/\ev=.int .i64 0/\wc.grownBy w none)
      case first =>
       clear x0 x1 y0 y1;have k6:∀w,wc.grownBy w none->w.cell? ⟨Y,0,none⟩=some (.slice vb (ps.length+1) vc)/\w.cell? ⟨Y,1,none⟩=some (.int .i64 12)/\w.cell? ⟨X,0,none⟩=some (.slice yb ps.length yc):=λw h=>⟨q8 (blk h (by simp) c8.out) rfl,q8 (blk h (by simp) c8.out) rfl,(SC.out _ (HC.out.trans h)).1⟩
       have b6:=q1e k6;clear k6;obtain⟨i0,b7,e9,e8,e7⟩:=qc1 Tryp.info3p;have HT:=q1e (qc wc none);refine qM 13 (λW=>W.cell? ⟨Y,0,none⟩=some (.slice vb (ps.length+1) vc)/\W.cell? ⟨Y,1,none⟩=some (.int .i64 12)/\W.cell? ⟨X,0,none⟩=some (.slice yb ps.length yc)) (by kernel_rfl) (by kernel_rfl) (b6.out _ (qc _ _)) (λZ=>?_);simp only[q7a,q7n,q8u,qaz,q7m,q9r,q9s,qa2,q96,q7G];generalize wc.drew=W0 at Z HT ⊢;refine tk 0 ?_;try go_frame
       refine tk 1 ?_;try go_frame
       refine tk 3 ?_;try go_frame
       refine tk 4 ?_;try go_frame
       refine tk 5 ?_;try go_frame
       refine rdy [2,6] ?_;refine cns 2 (λK hK=>?_) ?_
       ·skip
        go_simp;go_at_call 28;refine(q2n 0 _ _ l _ (LR.out _ (HC.out.trans HT.out)) (q3c _) (by omega)).mono ?_;rintro e w3 ⟨kv,rfl,hg,hk⟩;obtain⟨ka,kc,rfl,-⟩:=Zw hk;have KO:=q1e (Z0 hk HT.out.size);replace HT:=q1e (HT.out.trans hg);try replace F6:=q1e (blk hg (by simp) F6.out)
        clear hg hk;refine hK.out _ _ (b6.out _ HT.out) (λZ=>?_);clear hK K;try go_frame
        refine rdy [6] ?_;refine cns 6 (λK hK=>?_) ?_
        ·skip
         go_simp;replace HT:=q1e (show wc.grownBy _ none from HT.out.trans (q2g _ (.cells #[.int .i64 (ps.length:Int)] 3) none));have F6:=q1e (zB HT.out);try replace KO:=q1e (KO.out.alloc (.cells #[.int .i64 (ps.length:Int)] 3))
         refine hK.out _ _ (b6.out _ HT.out) (λZ=>?_);clear hK K;try go_frame
         refine rdy [7] ?_;refine cns 7 (λK hK=>?_) ?_
         ·skip
          refine qap _ (by rfl) _ _ _ (by rfl) wc.heap.size 3 i0 _ 1 8 Tryp.und29' b7 e9 e8 e7 rfl (by omega) (.slice ka l.length kc) l.length (l.map (q8q .i64)) (by rfl) KO.out ⟨_,0,none⟩ 1 1 [.int .i64 (ps.length:Int)] (by rfl) (by rfl) (q9B (cs:=#[.int .i64 (ps.length:Int)]) (t:=3) (fr:=(0,0)) F6.out) (by simp[qat]) (by omega) (by unfold maxLen;omega) (by omega) HT.out.size _ rfl ?_;intro gg n9 w4 a7 a8 e5 hgl;have HN:=q1e (qf.mono (qf.own (l:=l++[(ps.length:Int)]) (by simpa using a7) (by simp;omega)) (q9f _) (q3c _));replace HT:=q1e (HT.out.andThen a8 (λj e=>.inl (KO.out.lt j e).1));clear a7 a8 e5 hgl;refine hK.out _ _ (b6.out _ HT.out) (λZ=>?_);clear hK K;try go_frame
          refine rdy [8] ?_;refine cns 8 (λK hK=>?_) ?_
          ·skip
           go_simp;go_at_call 37;refine(xS 0 _ _ _ (ps++[(⟨(k:Int),k,0,1⟩:Par)]) 12 (l++[(ps.length:Int)]) _ ((p8.out.kept HT.out (by simp)).mono (q3c _) HT.out.size) HN.out (q3c _) (try_ok a9.out c3 (by omega) (by omega)) (q4z c3 q0.out PK.out)).mono ?_;rintro e w5 ⟨rfl,hg⟩;replace HT:=q1e (HT.out.trans hg);clear hg;refine hK.out _ _ (b6.out _ HT.out) (λZ=>?_);clear hK K;try go_frame
           refine tk 9 ?_;try go_frame
           refine tk 10 ?_;try go_frame
           refine tk 11 ?_;try go_frame
           refine tk 12 ?_;try go_frame
           refine⟨by kernel_rfl,?_⟩;simp only[q8E,qa5];go_wp2;go_meet;exact⟨rfl,rfl,HT.out⟩
          exact qi.nil
         exact qi.nil
        exact qi.nil
       refine cns 6 (λK hK=>?_) ?_
       ·skip
        go_simp;replace HT:=q1e (show wc.grownBy _ none from HT.out.trans (q2g _ (.cells #[.int .i64 (ps.length:Int)] 3) none));have F6:=q1e (zB HT.out);try replace KO:=q1e (KO.out.alloc (.cells #[.int .i64 (ps.length:Int)] 3))
        refine hK.out _ _ (b6.out _ HT.out) (λZ=>?_);clear hK K;try go_frame
        refine rdy [2] ?_;refine cns 2 (λK hK=>?_) ?_
        ·skip
         go_simp;go_at_call 28;refine(q2n 0 _ _ l _ (LR.out _ (HC.out.trans HT.out)) (q3c _) (by omega)).mono ?_;rintro e w3 ⟨kv,rfl,hg,hk⟩;obtain⟨ka,kc,rfl,-⟩:=Zw hk;have KO:=q1e (Z0 hk HT.out.size);replace HT:=q1e (HT.out.trans hg);try replace F6:=q1e (blk hg (by simp) F6.out)
         clear hg hk;refine hK.out _ _ (b6.out _ HT.out) (λZ=>?_);clear hK K;try go_frame
         refine rdy [7] ?_;refine cns 7 (λK hK=>?_) ?_
         ·skip
          refine qap _ (by rfl) _ _ _ (by rfl) wc.heap.size 3 i0 _ 1 8 Tryp.und29' b7 e9 e8 e7 rfl (by omega) (.slice ka l.length kc) l.length (l.map (q8q .i64)) (by rfl) KO.out ⟨_,0,none⟩ 1 1 [.int .i64 (ps.length:Int)] (by rfl) (by rfl) (q9B (cs:=#[.int .i64 (ps.length:Int)]) (t:=3) (fr:=(0,0)) F6.out) (by simp[qat]) (by omega) (by unfold maxLen;omega) (by omega) HT.out.size _ rfl ?_;intro gg n9 w4 a7 a8 e5 hgl;have HN:=q1e (qf.mono (qf.own (l:=l++[(ps.length:Int)]) (by simpa using a7) (by simp;omega)) (q9f _) (q3c _));replace HT:=q1e (HT.out.andThen a8 (λj e=>.inl (KO.out.lt j e).1));clear a7 a8 e5 hgl;refine hK.out _ _ (b6.out _ HT.out) (λZ=>?_);clear hK K;try go_frame
          refine rdy [8] ?_;refine cns 8 (λK hK=>?_) ?_
          ·skip
           go_simp;go_at_call 37;refine(xS 0 _ _ _ (ps++[(⟨(k:Int),k,0,1⟩:Par)]) 12 (l++[(ps.length:Int)]) _ ((p8.out.kept HT.out (by simp)).mono (q3c _) HT.out.size) HN.out (q3c _) (try_ok a9.out c3 (by omega) (by omega)) (q4z c3 q0.out PK.out)).mono ?_;rintro e w5 ⟨rfl,hg⟩;replace HT:=q1e (HT.out.trans hg);clear hg;refine hK.out _ _ (b6.out _ HT.out) (λZ=>?_);clear hK K;try go_frame
           refine tk 9 ?_;try go_frame
           refine tk 10 ?_;try go_frame
           refine tk 11 ?_;try go_frame
           refine tk 12 ?_;try go_frame
           refine⟨by kernel_rfl,?_⟩;simp only[q8E,qa5];go_wp2;go_meet;exact⟨rfl,rfl,HT.out⟩
          exact qi.nil
         exact qi.nil
        exact qi.nil
       exact qi.nil
      case rest =>
       obtain⟨rfl,rfl,e6⟩:=hcut
       rename_i wd
       obtain⟨t0,t1⟩:=SS.out _ (HC.out.trans e6);have r6:=q1e (HC.out.trans e6);have hst:=q63 a9.out PK.out.ok q2 (n:=k) (by omega) (by omega) r5.out r4.out;clear e6 y0 y1 x0 x1;generalize zJ (ps++[(⟨(k:Int),k,0,1⟩:Par)]) (l++[(ps.length:Int)])=z at hst ⊢;rcases hst with⟨rfl,h1,h2⟩ | ⟨rfl,h1,h2⟩ | ⟨rfl,h1,h2⟩
       all_goals
        go_wp2;go_roundw
        case rel=>exact⟨k+1,by simp,by omega,by omega,r6.out⟩
        case measure=>simp[qaA];omega
    ·obtain rfl:k=13:=by omega
     go_wp2;refine jq (λq=>(wq.tp q.tape).grownBy q none) (gb G5.out (tpg a6.out)) λu8 g8=>?_;clear SC SS PR LR G5 a6 X5 S5 P5 L5;refine EL.seq D hb hs ?_;refine EL.region D hb hs ?_;simp only[q8B,q7a,q7n,q8u,q7m,q9g,q9H];refine EL.enter D hb hs (fk:=23) (args:=#[]) rfl rfl (λT=>by rw[run_call_body (f:=23) rfl Tryp.func23 (by kernel_rfl) rfl];walk_nrm) (z8 23 (by decide)) ?_;refine el23 D hok m4 hin ⟨_,Tryp.func5,Tryz.func5⟩ ?_ _ [ql 5] hb hs λv u hR=>?_
     ·obtain⟨cs,e,g,h0,b7⟩:=h0
      exact⟨cs,e,g,blk (w:=wq.tp u8.tape) g8 (by simp) h0,b7⟩
     obtain⟨rfl,q3⟩:=hR;rw[qbn];walk_nrm;refine EL.list D hb hs [1] [_] (rest:=[]) rfl λT4=>?_;go_wp2;refine EL.tape (wq:=u) ?_ T4;refine EL.region_end D hb hs ?_;refine EL.retS D hb hs ?_;exact EL.last d5 rfl rfl Tryz.func5 rfl rfl b8
end
end Go.Proofs.YtidgnkmjgioapaaGreat
end
section
namespace Go.Proofs.YtidgnkmjgioapaaGreat
open Go Go.RowKit Go.Co Go.Sim Go.Conc Go.ConcN Go.ChangeShapes Go.WideShapes
theorem Tryz.own:ownKnob Tryz.prog.godebug=none:=by kernel_rfl
theorem Tryz.laidOut:laidOutB q7f=true:=by kernel_rfl
theorem q5i:Tryz.prog.globals.size=0:=by kernel_rfl
theorem start0:(begin q7f (λ_ _=>0) default).world.heap[0]?=some (.cells ((Array.range Tryz.prog.types.size).map λt=>.int .u64 (Int.ofNat t)) 0 (0,0)):=by kernel_rfl
def OpenAt0(w:q2q):Prop:=∃cs e f,w.heap[0]?=some (.cells cs e f)/\∀(i:Nat) v,cs[i]?=some v->∃k m,v=.int k m
theorem open0{w:q2q}(h:w.ShapedOpen q7f):OpenAt0 w:=by
 obtain⟨o,o0,h1,h2,h3⟩:=h.2 0 (by rw[q5i];exact q3c _) (q49.1 start0).1;rw[start0] at h2;cases h2;rw[q5i,if_neg (by decide)] at h3;subst h3;refine⟨_,_,_,h1,λi v hv=>?_⟩;rw[Array.getElem?_map] at hv;cases hi:(Array.range Tryz.prog.types.size)[i]? with
 | none=>rw[hi] at hv;cases hv
 | some x=>rw[hi] at hv;cases hv;exact⟨_,_,rfl⟩
theorem two0:@Two (JS Tryp.prog q7f ls λ_=>False) Tryp.prog q7f :=
 @Two.mk (JS Tryp.prog q7f ls λ_=>False) _ _ (duoQP _) ⟨⟨JS Tryp.prog Tryp.prog ls λ_=>False⟩,up _,duoQQ _⟩ hrf stub85
def NumLaw(f:qag):Prop :=
 ∀ [J:JunkSet] {Post:q4b->q2q->Prop} {W:q2q},Two Tryp.prog q7f->JunkSet.okf 137->(∀i,¬ JunkSet.jk i)->∀{base:Option qae} {len cap:Nat} {wq:q2q},(len:Int)<=9223372036854775807 ->
  (0<len->∃lb lo,base=some ⟨lb,lo,none⟩/\∀i,i<len->∃x,wq.cell? ⟨lb,lo+i,none⟩=some (.int .i64 x))->qV wq 0 ->
  (∀w,(∀j,j<W.heap.size->w.heap[j]?=W.heap[j]?)->w.os=W.os->w.output=W.output->W.heap.size<=w.heap.size->Post (.bool true) w) ->
  EL Tryp.prog q7f f Post W (G (q9t Tryp.prog f #[.slice base len cap] .normal) [ql f]) wq
theorem q94{f:qag}(hf:f≠85)(b6:lst.contains f=true)(b0:NumLaw f){Post:q4b->q2q->Prop}{W:q2q}{a0:Option qae}{len cap:Nat}(hsp:∀a,a0=some a->a.spot=none/\∃cs e g,W.heap[a.block]?=some (.cells cs e g))
  (hl:(len:Int)<=9223372036854775807) (hr:0<len->∃lb lo,a0=some ⟨lb,lo,none⟩/\∀i,i<len->∃x,W.cell? ⟨lb,lo+i,none⟩=some (.int .i64 x)) (h0:qV W 0)
  (a6:∀w,(∀j,j<W.heap.size->w.heap[j]?=W.heap[j]?)->w.os=W.os->w.output=W.output->W.heap.size<=w.heap.size->Post (.bool true) w) :
  Go.Co.Ends q7f Post (solo (G (q9t q7f f #[.slice a0 len cap] .normal) []) W) #[]:=by
 letI:JunkSet:=JS Tryp.prog q7f ls λ_=>False
 obtain⟨a9,e0,g0,a7,b8⟩:=h0;have b9:0<W.heap.size:=(q49.1 a7).1
 let kn:Nat->Bool:=λi=>i == 0 || (match a0 with | some a=>i == a.block | none=>false)
 have b7:∀i,kn i=true->i<W.heap.size->∃cs e g,W.heap[i]?=some (.cells cs e g):=by
  intro i hi _;simp only[kn,qbB,beq_iff_eq] at hi;rcases hi with rfl | hi
  ·exact⟨_,_,_,a7⟩
  ·cases a0 with
   | none=>cases hi
   | some a =>
    have:i=a.block:=by simpa using hi
    rw[this];exact(hsp a rfl).2
 refine EL.begin (kn:=kn) (aq:=#[.slice a0 len cap]) two0 b6 (z8 f hf) (λi h=>h) (by rw[q5i];exact b9) (λi hi=>?_) b7 ⟨rfl,λi x y hx hy=>?_⟩ ?_
 ·rw[q5i] at hi
  obtain rfl:i=0:=by omega
  rfl
 ·rw[hx] at hy
  cases hy;obtain rfl:x=.slice a0 len cap:=by
   rcases i with _ | i
   ·simpa using hx.symm
   ·simp at hx
  cases a0 with
  | none=>exact .sliceNil _ _
  | some a =>
   obtain⟨a8,cs,e,g,Z⟩:=hsp a rfl;obtain⟨b,o,sp⟩:=a;dsimp only at a8 Z;subst a8;exact .slice _ _ _ _ (vU.2 ⟨(q49.1 Z).1,by simp[kn],rfl⟩)
 ·refine b0 two0 (by show lst.contains 137=true;rfl) (λi h=>h) hl (λhp=>?_) ⟨_,_,_,ve (by rfl) a7,λi v hv=>?_⟩ a6
  rotate_left
  ·have hsz:i<a9.size:=by have:=(q49.1 hv).1;simpa[x9] using this
   obtain⟨k,m,e⟩:=b8 i _ (q8s hsz);rw[KL _ _ (show a9[i]?=some (.int k m) by rw[<- e];exact q8s hsz)] at hv;cases hv;exact⟨k,m,rfl⟩
  obtain⟨lb,lo,rfl,h⟩:=hr hp;refine⟨lb,lo,rfl,λi hi=>?_⟩;obtain⟨x,hx⟩:=h i hi;obtain⟨-,cs,e,g,Z⟩:=hsp _ rfl;refine⟨x,?_⟩;have hc:cs[lo+i]?=some (.int .i64 x):=by simpa[q9a,Z] using hx
  have:=ve (kn:=kn) (by simp[kn]) Z;simp only[q9a,this];exact KL _ _ hc
end Go.Proofs.YtidgnkmjgioapaaGreat
end
